/- Turned by a program of this session out of what the print prints for the functions that NumberRounds reaches: the same proofs in shorter words. -/
import Derived.Test.YtgecbfemlpmpeaaSNumberRounds5
namespace Go.Proofs.Ytgecbfemlpmpeaa.SNumberRounds
open Go.RowKit Go.Proofs.Ytgecbfemlpmpeaa.Wd.PrintWords Go.Proofs.Ytgecbfemlpmpeaa.Wd.PrintLast Go.Proofs.Ytgecbfemlpmpeaa.Wd.PrintMore
set_option linter.unusedVariables false
set_option linter.unusedSimpArgs false
attribute [local go_sem] max2_int min2_int max_two min_two max_three min_three max_four min_four   -- for this text's walks alone
attribute [local go_sem high] eqA24
set_option maxHeartbeats 8000000 in
set_option maxRecDepth 100000 in
theorem serinettelaw01_NumberRounds.calls (k : Nat) (a0_0 : Int) (a0_1 : Int) (a1_0 : Int) (a1_1 : Int) (r : Bool) (hr : Aside0 (r = true)) (w : World) (h : serinettelaw01_NumberRounds.f k a0_0 a0_1 a1_0 a1_1 = some r) :
  Calls Try.prog 7 #[.agg #[.int .i64 a0_0, .int .i64 a0_1], .agg #[.int .i64 a1_0, .int .i64 a1_1]] w fun e w' => e = .returned (.bool r) ∧ Below w.heap.size w w' := by
 have hu24 := Try.underlying24
 have HB := Aside0.mk (Below.refl w.heap.size w)
 have H : ((serinettelaw01_numbers.f k (([(⟨a0_0, a0_1⟩ : S24)] : List (S24)))).bind fun t196 => (if t196 = true then ((ratio_Floor.f k a0_0 a0_1).bind fun bt216 => ((ratio_Frac.f k a0_0 a0_1).bind fun bt219 => ((serinettelaw01_numbers.f k (([(⟨bt219.1, bt219.2⟩ : S24)] : List (S24)))).bind fun t225 => (if t225 = true then ((ratio_Add.f k bt216.1 bt216.2 bt219.1 bt219.2).bind fun bt226 => (if (!(bt226.1 == a0_0) || (!(bt226.2 == a0_1))) = true then (serinettelaw01_NumberRounds.j0 k true a0_0 a0_1 a1_0 a1_1) else ((ratio_Cmp.f k bt219.1 bt219.2 0 1).bind fun t228 => (if t228 < 0 then (serinettelaw01_NumberRounds.j0 k true a0_0 a0_1 a1_0 a1_1) else ((ratio_Cmp.f k bt219.1 bt219.2 1 1).bind fun t229 => (serinettelaw01_NumberRounds.j0 k (decide (t229 ≥ 0)) a0_0 a0_1 a1_0 a1_1)))))) else (serinettelaw01_NumberRounds.j0 k false a0_0 a0_1 a1_0 a1_1))))) else ((ratio_Floor.f k a0_0 a0_1).bind fun bt197 => ((serinettelaw01_numbers.f k (([(⟨bt197.1, bt197.2⟩ : S24)] : List (S24)))).bind fun t202 => (if t202 = true then (some false) else ((ratio_Round.f k a0_0 a0_1).bind fun bt203 => ((serinettelaw01_numbers.f k (([(⟨bt203.1, bt203.2⟩ : S24)] : List (S24)))).bind fun t208 => (if t208 = true then (some false) else ((ratio_Frac.f k a0_0 a0_1).bind fun bt209 => ((serinettelaw01_numbers.f k (([(⟨bt209.1, bt209.2⟩ : S24)] : List (S24)))).bind fun t214 => (if t214 = true then (some false) else ((serinettelaw01_awake.f k).bind fun t215 => (some t215))))))))))))) = some r := h
 clear h
 obtain ⟨y193, hy193⟩ : ∃ y_ : List (S24), y_ = (([(⟨a0_0, a0_1⟩ : S24)] : List (S24))) := ⟨_, rfl⟩
 replace H : ((serinettelaw01_numbers.f k y193).bind fun t196 => (if t196 = true then ((ratio_Floor.f k a0_0 a0_1).bind fun bt216 => ((ratio_Frac.f k a0_0 a0_1).bind fun bt219 => ((serinettelaw01_numbers.f k (([(⟨bt219.1, bt219.2⟩ : S24)] : List (S24)))).bind fun t225 => (if t225 = true then ((ratio_Add.f k bt216.1 bt216.2 bt219.1 bt219.2).bind fun bt226 => (if (!(bt226.1 == a0_0) || (!(bt226.2 == a0_1))) = true then (serinettelaw01_NumberRounds.j0 k true a0_0 a0_1 a1_0 a1_1) else ((ratio_Cmp.f k bt219.1 bt219.2 0 1).bind fun t228 => (if t228 < 0 then (serinettelaw01_NumberRounds.j0 k true a0_0 a0_1 a1_0 a1_1) else ((ratio_Cmp.f k bt219.1 bt219.2 1 1).bind fun t229 => (serinettelaw01_NumberRounds.j0 k (decide (t229 ≥ 0)) a0_0 a0_1 a1_0 a1_1)))))) else (serinettelaw01_NumberRounds.j0 k false a0_0 a0_1 a1_0 a1_1))))) else ((ratio_Floor.f k a0_0 a0_1).bind fun bt197 => ((serinettelaw01_numbers.f k (([(⟨bt197.1, bt197.2⟩ : S24)] : List (S24)))).bind fun t202 => (if t202 = true then (some false) else ((ratio_Round.f k a0_0 a0_1).bind fun bt203 => ((serinettelaw01_numbers.f k (([(⟨bt203.1, bt203.2⟩ : S24)] : List (S24)))).bind fun t208 => (if t208 = true then (some false) else ((ratio_Frac.f k a0_0 a0_1).bind fun bt209 => ((serinettelaw01_numbers.f k (([(⟨bt209.1, bt209.2⟩ : S24)] : List (S24)))).bind fun t214 => (if t214 = true then (some false) else ((serinettelaw01_awake.f k).bind fun t215 => (some t215))))))))))))) = some r := by first | (rw [hy193]; with_reducible exact H) | (have H2_ := (Option.bind_some _ _).symm.trans H; rw [hy193]; with_reducible exact H2_) | (have H2_ := (Option.bind_some _ _).symm.trans H; with_reducible exact H2_) | with_reducible exact H | (rw [hy193]; exact H) | exact H
 have Ny193 := Aside0.mk hy193
 clear hy193
 replace H := Option.bind_eq_some_iff.mp H
 obtain ⟨t196, A30, H⟩ := H
 (try dsimp only at H)
 have A3 := Aside0.mk A30
 clear A30
 by_cases c4 : t196 = true
 ·
  subst c4
  rw [if_pos rfl] at H
  replace H := Option.bind_eq_some_iff.mp H
  obtain ⟨⟨t216, t217⟩, A50, H⟩ := H
  (try dsimp only at H)
  have A5 := Aside0.mk A50
  clear A50
  replace H := Option.bind_eq_some_iff.mp H
  obtain ⟨⟨t219, t220⟩, A60, H⟩ := H
  (try dsimp only at H)
  have A6 := Aside0.mk A60
  clear A60
  have HC7 := Aside0.mk H
  clear H
  go_enter Try.func7, Try.ntmps7
  go_upto_region 5 with (first | ((with_reducible refine gate_dst (N := 2) rfl ?_); (try (refine gate_guard (by rfl) ?_; dsimp only)); refine box_event ?hg (N := 2) ?hd (cs := #[.int .i64 a0_0, .int .i64 a0_1]) (t := 24) ?hr ?_; (case hd => rfl); (case hg => rfl); (case hr => first | (go_simp; done) | (go_simp; rfl)); intro gb191 hg w8 hbox hb; have BK191 := Aside0.mk (hbox); have GW191 := hz_ hg HB; have GE191 := hz_ hg HB; replace HB := hs HB hb; clear hb hbox hg) | ((with_reducible refine gate_dst (N := 3) rfl ?_); (try (refine gate_guard (by rfl) ?_; dsimp only)); refine box_event ?hg (N := 3) ?hd (cs := #[.int .i64 a1_0, .int .i64 a1_1]) (t := 24) ?hr ?_; (case hd => rfl); (case hg => rfl); (case hr => first | (go_simp; done) | (go_simp; rfl)); intro gb192 hg w9 hbox hb; have BK192 := Aside0.mk (hbox); have GW192 := bz' HB hg (by repeat first | (with_reducible exact HB.out) | refine bl1 ?_ | (with_reducible refine bset ?_ ‹_›) | exact HB.out); have GE192 := bz' HB hg (by repeat first | (with_reducible exact HB.out) | refine bl1 ?_ | (with_reducible refine bset ?_ ‹_›) | exact HB.out); have NB191_192 := nlk hg BK191; have NB192_191 := ngk hg BK191; replace BK191 := kb BK191 hb; replace HB := hs' HB (by repeat first | (with_reducible exact HB.out) | refine bl1 ?_ | (with_reducible refine bset ?_ ‹_›) | exact HB.out) hb; clear hb hbox hg; have hnb10 := NB191_192.out; have hnc10 := NB192_191.out; have hcz11_0 : w9.cell? ⟨gb191, 0, none⟩ = some (.int .i64 a0_0) := (blk_cell BK191.out 0).trans rfl; have hcz11_1 : w9.cell? ⟨gb191, 1, none⟩ = some (.int .i64 a0_1) := (blk_cell BK191.out 1).trans rfl; have hfz11_0 := blk_frozen BK191.out 0; have hfz11_1 := blk_frozen BK191.out 1) | ((with_reducible refine gate_dst (N := 10) rfl ?_); (try (refine gate_guard (by rfl) ?_; dsimp only)); refine Kd.R_lit k24 _ 24 ?hg (N := 10) ?hd (xs := ([(⟨a0_0, a0_1⟩ : S24)] : List (S24))) (inner := [.int .i64 a0_0, .int .i64 a0_1]) (ok := fun _ => True) (okp := fun _ => True) ?hr ?hp (fun _ hk => hk) trivial (Below.refl _ _) (Nat.le_refl _) (by simp) ?_; (case hd => rfl); (case hg => rfl); (case hr => first | (go_simp; done) | (go_simp; rfl)); (case hp => exact (Reps.c2 (show Kd.M k24 _ _ _ (⟨a0_0, a0_1⟩ : S24) [.int .i64 a0_0, .int .i64 a0_1] from (k24_mkM _ _ _ (⟨a0_0, a0_1⟩ : S24) )) (Reps.none _ _))); intro v194 w12 ho13 hb hg_ hnew_; clear hg_ hnew_; (first | rw [← Ny193.out] at ho13 | (simp only [Int.reduceToNat] at ho13; rw [← Ny193.out] at ho13)); have HO195 := Aside0.mk (Kd.R_lower (Kd.R_newB (Kd.R_newB ho13 (g := gb191) (o := .cells #[.int .i64 a0_0, .int .i64 a0_1] 24 (0, 0)) (bk BK191.out)) (g := gb192) (o := .cells #[.int .i64 a1_0, .int .i64 a1_1] 24 (0, 0)) (bk BK192.out)) (below_size (by repeat first | (with_reducible exact HB.out) | refine bl1 ?_ | (with_reducible refine bset ?_ ‹_›) | exact HB.out))); replace BK191 := kb BK191 hb; replace BK192 := kb BK192 hb; replace HB := hs' HB (by repeat first | (with_reducible exact HB.out) | refine bl1 ?_ | (with_reducible refine bset ?_ ‹_›) | exact HB.out) hb; clear hb ho13; obtain ⟨Ao14, co14, eo14⟩ := Kd.R_slice HO195.out; subst eo14) | ((with_reducible refine gate_callee (f := 14) rfl ?_); refine goesL_ (some 11) rfl rfl Try.func14 (by kernel_rfl) rfl #[.slice Ao14 y193.length co14] rfl (by (try simp only [mp]); first | done | rfl | (simp only [ld]; rfl)) ?_; (with_reducible refine (serinettelaw01_numbers.calls k _ _ y193 true _ ?side1 ?side2 A3.out).mono ?_); (case side1 => repeat (first | exact (Kd.R_reads' HO195.out).2.2 | (with_reducible refine Kd.C_alloc ?_ _) | (with_reducible refine Kd.C_drewN ?_ _) | (with_reducible refine Kd.C_drew ?_))); (case side2 => exact (Kd.R_reads' HO195.out).2.1); rintro e w15 ⟨rfl, hb⟩; refine ⟨_, rfl, ?_⟩; replace HO195 := Aside0.mk (Kd.R_below (by (with_reducible repeat (first | apply Kd.R_alloc | apply Kd.R_drewN | apply Kd.R_drew)); exact HO195.out) hb); replace BK191 := kb BK191 hb; replace BK192 := kb BK192 hb; replace HB := hs' HB (by repeat first | (with_reducible exact HB.out) | refine bl1 ?_ | (with_reducible refine bset ?_ ‹_›) | exact HB.out) hb; (try clear hb); (try clear hb2); (try clear hk); (try clear hi); have hcz16_0 : w15.cell? ⟨gb191, 0, none⟩ = some (.int .i64 a0_0) := (blk_cell BK191.out 0).trans rfl; have hcz16_1 : w15.cell? ⟨gb191, 1, none⟩ = some (.int .i64 a0_1) := (blk_cell BK191.out 1).trans rfl; have hfz16_0 := blk_frozen BK191.out 0; have hfz16_1 := blk_frozen BK191.out 1) | ((with_reducible refine gate_callee (f := 28) rfl ?_); refine goesL_ (some 36) rfl rfl Try.func28 (by kernel_rfl) rfl #[.agg #[.int .i64 a0_0, .int .i64 a0_1]] rfl (by (try simp only [mp]); first | done | rfl | (simp only [ld]; rfl)) ?_; (with_reducible refine (ratio_Floor.calls k a0_0 a0_1 t216 t217 _ A5.out).mono ?_); rintro e w17 ⟨rfl, hb⟩; refine ⟨_, rfl, ?_⟩; replace HO195 := Aside0.mk (Kd.R_below (by (with_reducible repeat (first | apply Kd.R_alloc | apply Kd.R_drewN | apply Kd.R_drew)); exact HO195.out) hb); replace BK191 := kb BK191 hb; replace BK192 := kb BK192 hb; replace HB := hs' HB (by repeat first | (with_reducible exact HB.out) | refine bl1 ?_ | (with_reducible refine bset ?_ ‹_›) | exact HB.out) hb; (try clear hb); (try clear hb2); (try clear hk); (try clear hi)) | ((with_reducible refine gate_dst (N := 5) rfl ?_); (try (refine gate_guard (by rfl) ?_; dsimp only)); refine box_event ?hg (N := 5) ?hd (cs := #[.int .i64 0, .int .i64 0]) (t := 24) ?hr ?_; (case hd => rfl); (case hg => rfl); (case hr => first | (go_simp; done) | (go_simp; rfl)); intro gb218 hg w18 hbox hb; have BK218 := Aside0.mk (hbox); have GW218 := bz' HB hg (by repeat first | (with_reducible exact HB.out) | refine bl1 ?_ | (with_reducible refine bset ?_ ‹_›) | exact HB.out); have GE218 := bz' HB hg (by repeat first | (with_reducible exact HB.out) | refine bl1 ?_ | (with_reducible refine bset ?_ ‹_›) | exact HB.out); have NB191_218 := nlk hg BK191; have NB218_191 := ngk hg BK191; have NB192_218 := nlk hg BK192; have NB218_192 := ngk hg BK192; replace HO195 := Aside0.mk (Kd.R_below (Kd.R_elderB (by (with_reducible repeat (first | apply Kd.R_alloc | apply Kd.R_drewN | apply Kd.R_drew)); exact HO195.out) gb218 (Nat.le_of_eq hg.symm)) hb); replace BK191 := kb BK191 hb; replace BK192 := kb BK192 hb; replace HB := hs' HB (by repeat first | (with_reducible exact HB.out) | refine bl1 ?_ | (with_reducible refine bset ?_ ‹_›) | exact HB.out) hb; clear hb hbox hg; have hnb19 := NB218_191.out; have hnc19 := NB191_218.out; have hnb20 := NB218_192.out; have hnc20 := NB192_218.out; have hcz21_0 : w18.cell? ⟨gb218, 0, none⟩ = some (.int .i64 0) := (blk_cell BK218.out 0).trans rfl; have hcz21_1 : w18.cell? ⟨gb218, 1, none⟩ = some (.int .i64 0) := (blk_cell BK218.out 1).trans rfl; have hfz21_0 := blk_frozen BK218.out 0; have hfz21_1 := blk_frozen BK218.out 1; have hcz22_0 : w18.cell? ⟨gb191, 0, none⟩ = some (.int .i64 a0_0) := (blk_cell BK191.out 0).trans rfl; have hcz22_1 : w18.cell? ⟨gb191, 1, none⟩ = some (.int .i64 a0_1) := (blk_cell BK191.out 1).trans rfl; have hfz22_0 := blk_frozen BK191.out 0; have hfz22_1 := blk_frozen BK191.out 1) | ((with_reducible refine gate_callee (f := 30) rfl ?_); refine goesL_ (some 38) rfl rfl Try.func30 (by kernel_rfl) rfl #[.agg #[.int .i64 a0_0, .int .i64 a0_1]] rfl (by (try simp only [mp]); first | done | rfl | (simp only [ld]; rfl)) ?_; (with_reducible refine (ratio_Frac.calls k a0_0 a0_1 t219 t220 _ A6.out).mono ?_); rintro e w23 ⟨rfl, hb⟩; refine ⟨_, rfl, ?_⟩; replace HO195 := Aside0.mk (Kd.R_below (by (with_reducible repeat (first | apply Kd.R_alloc | apply Kd.R_drewN | apply Kd.R_drew)); exact (Kd.R_mono (Kd.R_far (p := ⟨gb218, 1, none⟩) (Kd.R_far (p := ⟨gb218, 0, none⟩) (Kd.R_mono HO195.out (fun k_ hk => (⟨hk, hk.2⟩ : _ ∧ k_ ≠ gb218))) (fun _ hk => hk.2) (.int .i64 t216)) (fun _ hk => hk.2) (.int .i64 t217)) (fun _ h_ => h_.1))) hb); replace BK191 := Aside0.mk (blk_below (g := gb191) (o := .cells #[.int .i64 a0_0, .int .i64 a0_1] 24 (0, 0)) (by refine bk ?_; refine blk_far ?_ NB191_218.out _; refine bk ?_; refine blk_far ?_ NB191_218.out _; refine bk ?_; exact BK191.out) hb); replace BK192 := Aside0.mk (blk_below (g := gb192) (o := .cells #[.int .i64 a1_0, .int .i64 a1_1] 24 (0, 0)) (by refine bk ?_; refine blk_far ?_ NB192_218.out _; refine bk ?_; refine blk_far ?_ NB192_218.out _; refine bk ?_; exact BK192.out) hb); replace BK218 := Aside0.mk (blk_below (g := gb218) (o := .cells #[.int .i64 t216, .int .i64 t217] 24 (0, 0)) (by refine bk ?_; refine blk_put (cs := #[.int .i64 t216, .int .i64 0]) ?_ 1 _ rfl; refine bk ?_; refine blk_put (cs := #[.int .i64 0, .int .i64 0]) ?_ 0 _ rfl; refine bk ?_; exact BK218.out) hb); replace HB := hs' HB (by repeat first | (with_reducible exact HB.out) | refine bl1 ?_ | (with_reducible refine bset ?_ ‹_›) | exact HB.out) hb; (try clear hb); (try clear hb2); (try clear hk); (try clear hi)) | ((with_reducible refine gate_dst (N := 6) rfl ?_); (try (refine gate_guard (by rfl) ?_; dsimp only)); refine box_event ?hg (N := 6) ?hd (cs := #[.int .i64 0, .int .i64 0]) (t := 24) ?hr ?_; (case hd => rfl); (case hg => rfl); (case hr => first | (go_simp; done) | (go_simp; rfl)); intro gb221 hg w24 hbox hb; have BK221 := Aside0.mk (hbox); have GW221 := bz' HB hg (by repeat first | (with_reducible exact HB.out) | refine bl1 ?_ | (with_reducible refine bset ?_ ‹_›) | exact HB.out); have GE221 := bz' HB hg (by repeat first | (with_reducible exact HB.out) | refine bl1 ?_ | (with_reducible refine bset ?_ ‹_›) | exact HB.out); have NB191_221 := nlk hg BK191; have NB221_191 := ngk hg BK191; have NB192_221 := nlk hg BK192; have NB221_192 := ngk hg BK192; have NB218_221 := nlk hg BK218; have NB221_218 := ngk hg BK218; replace HO195 := Aside0.mk (Kd.R_below (Kd.R_elderB (by (with_reducible repeat (first | apply Kd.R_alloc | apply Kd.R_drewN | apply Kd.R_drew)); exact HO195.out) gb221 (Nat.le_of_eq hg.symm)) hb); replace BK191 := kb BK191 hb; replace BK192 := kb BK192 hb; replace BK218 := kb BK218 hb; replace HB := hs' HB (by repeat first | (with_reducible exact HB.out) | refine bl1 ?_ | (with_reducible refine bset ?_ ‹_›) | exact HB.out) hb; clear hb hbox hg; have hnb25 := NB221_191.out; have hnc25 := NB191_221.out; have hnb26 := NB221_192.out; have hnc26 := NB192_221.out; have hnb27 := NB221_218.out; have hnc27 := NB218_221.out; have hcz28_0 : w24.cell? ⟨gb221, 0, none⟩ = some (.int .i64 0) := (blk_cell BK221.out 0).trans rfl; have hcz28_1 : w24.cell? ⟨gb221, 1, none⟩ = some (.int .i64 0) := (blk_cell BK221.out 1).trans rfl; have hfz28_0 := blk_frozen BK221.out 0; have hfz28_1 := blk_frozen BK221.out 1))
  (try simp only [Act.put, List.setIfInBounds_toArray, List.set_cons_zero, List.set_cons_succ])
  go_cut [60] (fun v60 wc => ∃ (kq : Nat) (x60_6 : Bool), v60 = .bool x60_6 ∧ Aside0 (serinettelaw01_NumberRounds.j0 kq x60_6 a0_0 a0_1 a1_0 a1_1 = some r) ∧ Aside0 (kq ≤ k) ∧ Aside0 (wc.heap[gb191]? = some (.cells #[.int .i64 a0_0, .int .i64 a0_1] 24 (0, 0))) ∧ Aside0 (wc.heap[gb192]? = some (.cells #[.int .i64 a1_0, .int .i64 a1_1] 24 (0, 0))) ∧ Aside0 (wc.heap[gb218]? = some (.cells #[.int .i64 t216, .int .i64 t217] 24 (0, 0))) ∧ Aside0 (wc.heap[gb221]? = some (.cells #[.int .i64 t219, .int .i64 t220] 24 (0, 0))) ∧ Aside0 (Below w.heap.size w wc))
  case first =>
   have H := HC7.out
   clear HC7
   obtain ⟨y222, hy222⟩ : ∃ y_ : List (S24), y_ = (([(⟨t219, t220⟩ : S24)] : List (S24))) := ⟨_, rfl⟩
   replace H : ((serinettelaw01_numbers.f k y222).bind fun t225 => (if t225 = true then ((ratio_Add.f k t216 t217 t219 t220).bind fun bt226 => (if (!(bt226.1 == a0_0) || (!(bt226.2 == a0_1))) = true then (serinettelaw01_NumberRounds.j0 k true a0_0 a0_1 a1_0 a1_1) else ((ratio_Cmp.f k t219 t220 0 1).bind fun t228 => (if t228 < 0 then (serinettelaw01_NumberRounds.j0 k true a0_0 a0_1 a1_0 a1_1) else ((ratio_Cmp.f k t219 t220 1 1).bind fun t229 => (serinettelaw01_NumberRounds.j0 k (decide (t229 ≥ 0)) a0_0 a0_1 a1_0 a1_1)))))) else (serinettelaw01_NumberRounds.j0 k false a0_0 a0_1 a1_0 a1_1))) = some r := by first | (rw [hy222]; with_reducible exact H) | (have H2_ := (Option.bind_some _ _).symm.trans H; rw [hy222]; with_reducible exact H2_) | (have H2_ := (Option.bind_some _ _).symm.trans H; with_reducible exact H2_) | with_reducible exact H | (rw [hy222]; exact H) | exact H
   have Ny222 := Aside0.mk hy222
   clear hy222
   replace H := Option.bind_eq_some_iff.mp H
   obtain ⟨t225, A290, H⟩ := H
   (try dsimp only at H)
   have A29 := Aside0.mk A290
   clear A290
   by_cases c30 : t225 = true
   ·
    subst c30
    rw [if_pos rfl] at H
    replace H := Option.bind_eq_some_iff.mp H
    obtain ⟨⟨t226, t227⟩, A310, H⟩ := H
    (try dsimp only at H)
    have A31 := Aside0.mk A310
    clear A310
    by_cases c32 : (!(t226 == a0_0) || (!(t227 == a0_1))) = true
    ·
     rw [if_pos c32] at H
     have c32b0 : (!(t226 == a0_0) || (!(t227 == a0_1))) = true := c32
     clear c32
     (first | rw [c32b0] | (simp only [i64_w, i32_w]; rw [c32b0]) | skip)
     have H' := Aside0.mk H
     clear H
     try go_wp2
     have n0_ : Aside0 (Kd.R k24 24 ((w24.setCell ⟨gb221, 0, none⟩ (.int .i64 t219)).setCell ⟨gb221, 1, none⟩ (.int .i64 t220)) w.heap.size (fun k_ => k_ ≠ gb191 ∧ k_ ≠ gb192 ∧ k_ ≠ gb218 ∧ k_ ≠ gb221) (.slice Ao14 y193.length co14) y193) := ⟨by (with_reducible repeat (first | apply Kd.R_alloc | apply Kd.R_drewN | apply Kd.R_drew)); exact Kd.R_mono (Kd.R_far (p := ⟨gb221, 1, none⟩) (Kd.R_far (p := ⟨gb221, 0, none⟩) (Kd.R_mono HO195.out (fun k_ hk => (⟨hk, hk.2⟩ : _ ∧ k_ ≠ gb221))) (fun _ hk => hk.2) (.int .i64 t219)) (fun _ hk => hk.2) (.int .i64 t220)) (fun _ hk => ⟨hk.1.1.1.1.2, ⟨hk.1.1.1.2, ⟨hk.1.1.2, hk.1.2⟩⟩⟩)⟩
     have n1_ : Aside0 (((w24.setCell ⟨gb221, 0, none⟩ (.int .i64 t219)).setCell ⟨gb221, 1, none⟩ (.int .i64 t220)).heap[gb191]? = some (.cells #[.int .i64 a0_0, .int .i64 a0_1] 24 (0, 0))) := ⟨by refine bk ?_; refine blk_far ?_ NB191_221.out _; refine bk ?_; refine blk_far ?_ NB191_221.out _; refine bk ?_; exact BK191.out⟩
     have n2_ : Aside0 (((w24.setCell ⟨gb221, 0, none⟩ (.int .i64 t219)).setCell ⟨gb221, 1, none⟩ (.int .i64 t220)).heap[gb192]? = some (.cells #[.int .i64 a1_0, .int .i64 a1_1] 24 (0, 0))) := ⟨by refine bk ?_; refine blk_far ?_ NB192_221.out _; refine bk ?_; refine blk_far ?_ NB192_221.out _; refine bk ?_; exact BK192.out⟩
     have n3_ : Aside0 (((w24.setCell ⟨gb221, 0, none⟩ (.int .i64 t219)).setCell ⟨gb221, 1, none⟩ (.int .i64 t220)).heap[gb218]? = some (.cells #[.int .i64 t216, .int .i64 t217] 24 (0, 0))) := ⟨by refine bk ?_; refine blk_far ?_ NB218_221.out _; refine bk ?_; refine blk_far ?_ NB218_221.out _; refine bk ?_; exact BK218.out⟩
     have n4_ : Aside0 (((w24.setCell ⟨gb221, 0, none⟩ (.int .i64 t219)).setCell ⟨gb221, 1, none⟩ (.int .i64 t220)).heap[gb221]? = some (.cells #[.int .i64 t219, .int .i64 t220] 24 (0, 0))) := ⟨by refine bk ?_; refine blk_put (cs := #[.int .i64 t219, .int .i64 0]) ?_ 1 _ rfl; refine bk ?_; refine blk_put (cs := #[.int .i64 0, .int .i64 0]) ?_ 0 _ rfl; refine bk ?_; exact BK221.out⟩
     have n5_ : Aside0 (Below w.heap.size w ((w24.setCell ⟨gb221, 0, none⟩ (.int .i64 t219)).setCell ⟨gb221, 1, none⟩ (.int .i64 t220))) := ⟨by repeat first | exact HB.out | refine bset ?_ ‹_› | apply below_alloc | apply pw_below_drewN | apply below_drew1⟩
     (try clear HO195); (try clear BK191); (try clear BK192); (try clear BK218); (try clear BK221); (try clear HB)
     generalize ((w24.setCell ⟨gb221, 0, none⟩ (.int .i64 t219)).setCell ⟨gb221, 1, none⟩ (.int .i64 t220)) = w33 at n0_ n1_ n2_ n3_ n4_ n5_ ⊢
     have HO195 := n0_
     have BK191 := n1_
     have BK192 := n2_
     have BK218 := n3_
     have BK221 := n4_
     have HB := n5_
     clear n0_ n1_ n2_ n3_ n4_ n5_
     replace HO195 := Aside0.mk (Kd.R_drew HO195.out)
     replace BK191 := kd BK191
     replace BK192 := kd BK192
     replace BK218 := kd BK218
     replace BK221 := kd BK221
     replace HB := Aside0.mk (below_drew1 HB.out)
     refine start_ (n := 22) (S := fun w' => w'.cell? ⟨gb221, 0, none⟩ = some (.int .i64 t219) ∧ w'.cell? ⟨gb221, 1, none⟩ = some (.int .i64 t220) ∧ w'.cell? ⟨gb218, 0, none⟩ = some (.int .i64 t216) ∧ w'.cell? ⟨gb218, 1, none⟩ = some (.int .i64 t217) ∧ w'.cell? ⟨gb191, 0, none⟩ = some (.int .i64 a0_0) ∧ w'.cell? ⟨gb191, 1, none⟩ = some (.int .i64 a0_1)) (ds := []) (bA 22 0) (by kernel_rfl) rfl rfl ⟨(blk_cell BK221.out 0).trans rfl, (blk_cell BK221.out 1).trans rfl, (blk_cell BK218.out 0).trans rfl, (blk_cell BK218.out 1).trans rfl, (blk_cell BK191.out 0).trans rfl, (blk_cell BK191.out 1).trans rfl⟩ (fun hHeld => ?_); refine with_tabW serinettelaw01_NumberRounds.tab5 serinettelaw01_NumberRounds.bits5 (fun HT_ HW_ => ?_)
     generalize w33.drew = w34 at HO195 BK191 BK192 BK218 BK221 HB hHeld ⊢
     refine take_ (i := 0) (N := some 39) (v := ?_) (a' := ?_) (bA 22 1) rfl rfl (take_ofW HT_.out HW_.out (by kernel_rfl)) (fun _ _ _ h => h) (Or.inl ⟨by rfl, ?_⟩) hHeld ?_ ?_
     rotate_left
     ·
      rintro w' ⟨s0, s1, s2, s3, s4, s5⟩
      go_simp; with_reducible rfl
     rotate_left
     ·
      simp only [ap]
      rfl
     refine one_ (i := 1) (N := some 40) (bA 22 3) rfl rfl (one_of HT_.out (by kernel_rfl)) (by decide) (fun K hK => ?_)
     refine Kd.R_lit_step k24 _ 24 ?hg (N := 40) ?hd (xs := ([(⟨t219, t220⟩ : S24)] : List (S24))) (inner := [.int .i64 t219, .int .i64 t220]) (ok := fun _ => True) (okp := fun _ => True) ?hr ?hp (fun _ hk => hk) trivial (Below.refl _ _) (Nat.le_refl _) (by simp) ?_; (case hd => rfl); (case hg => rfl); (case hr => first | (go_simp; done) | (go_simp; rfl)); (case hp => exact (Reps.c2 (show Kd.M k24 _ _ _ (⟨t219, t220⟩ : S24) [.int .i64 t219, .int .i64 t220] from (k24_mkM _ _ _ (⟨t219, t220⟩ : S24) )) (Reps.none _ _)))
     intro v223 w35 ho36 hb hg_ hnew_
     clear hg_ hnew_
     (first | rw [← Ny222.out] at ho36 | (simp only [Int.reduceToNat] at ho36; rw [← Ny222.out] at ho36))
     have HO224 := Aside0.mk (Kd.R_lower (Kd.R_newB (Kd.R_newB (Kd.R_newB (Kd.R_newB (Kd.R_new' ho36 (Kd.R_lt (by (with_reducible repeat (first | apply Kd.R_alloc | apply Kd.R_drewN | apply Kd.R_drew)); exact HO195.out))) (g := gb191) (o := .cells #[.int .i64 a0_0, .int .i64 a0_1] 24 (0, 0)) (bk BK191.out)) (g := gb192) (o := .cells #[.int .i64 a1_0, .int .i64 a1_1] 24 (0, 0)) (bk BK192.out)) (g := gb218) (o := .cells #[.int .i64 t216, .int .i64 t217] 24 (0, 0)) (bk BK218.out)) (g := gb221) (o := .cells #[.int .i64 t219, .int .i64 t220] 24 (0, 0)) (bk BK221.out)) (below_size (by repeat first | (with_reducible exact HB.out) | refine bl1 ?_ | (with_reducible refine bset ?_ ‹_›) | exact HB.out)))
     replace HO195 := Aside0.mk (Kd.R_elder' (by (with_reducible repeat (first | apply Kd.R_alloc | apply Kd.R_drewN | apply Kd.R_drew)); exact HO195.out) (Kd.R_base ho36) hb)
     replace BK191 := kb BK191 hb
     replace BK192 := kb BK192 hb
     replace BK218 := kb BK218 hb
     replace BK221 := kb BK221 hb
     replace HB := hs' HB (by repeat first | (with_reducible exact HB.out) | refine bl1 ?_ | (with_reducible refine bset ?_ ‹_›) | exact HB.out) hb
     clear hb ho36
     obtain ⟨Ao37, co37, eo37⟩ := Kd.R_slice HO224.out
     (first | subst eo37 | (injection eo37 with f1_ f2_ f3_; have f4_ := f1_.symm; have f5_ := f3_.symm; clear f1_ f2_ f3_; subst f4_; subst f5_))
     refine hK.out _ _ ⟨(blk_cell BK221.out 0).trans rfl, (blk_cell BK221.out 1).trans rfl, (blk_cell BK218.out 0).trans rfl, (blk_cell BK218.out 1).trans rfl, (blk_cell BK191.out 0).trans rfl, (blk_cell BK191.out 1).trans rfl⟩ (fun hHeld => ?_)
     clear hK K
     refine norm_ (a' := ?_) ?_ ?_
     rotate_left
     ·
      show Act.put _ (some 40) _ = _
      simp only [ap]; rfl
     refine one_ (i := 2) (N := some 41) (bA 22 7) rfl rfl (one_of HT_.out (by kernel_rfl)) (by decide) (fun K hK => ?_)
     refine goes_ Try.func14 (by kernel_rfl) rfl #[.slice Ao37 y222.length co37] (by rfl) rfl rfl (by (try simp only [mp]); first | done | rfl | (simp only [ld]; rfl)) ?_
     with_reducible refine (serinettelaw01_numbers.calls k _ _ y222 true _ ?side1 ?side2 A29.out).mono ?_
     (case side1 => repeat (first | exact (Kd.R_reads' HO224.out).2.2 | (with_reducible refine Kd.C_alloc ?_ _) | (with_reducible refine Kd.C_drewN ?_ _) | (with_reducible refine Kd.C_drew ?_)))
     (case side2 => exact (Kd.R_reads' HO224.out).2.1)
     rintro e w38 ⟨rfl, hb⟩
     refine ⟨_, rfl, ?_⟩
     replace HO195 := Aside0.mk (Kd.R_below (by (with_reducible repeat (first | apply Kd.R_alloc | apply Kd.R_drewN | apply Kd.R_drew)); exact HO195.out) hb)
     replace HO224 := Aside0.mk (Kd.R_below (by (with_reducible repeat (first | apply Kd.R_alloc | apply Kd.R_drewN | apply Kd.R_drew)); exact HO224.out) hb)
     replace BK191 := kb BK191 hb
     replace BK192 := kb BK192 hb
     replace BK218 := kb BK218 hb
     replace BK221 := kb BK221 hb
     replace HB := hs' HB (by repeat first | (with_reducible exact HB.out) | refine bl1 ?_ | (with_reducible refine bset ?_ ‹_›) | exact HB.out) hb
     (try clear hb); (try clear hb2); (try clear hk); (try clear hi)
     refine hK.out _ _ ⟨(blk_cell BK221.out 0).trans rfl, (blk_cell BK221.out 1).trans rfl, (blk_cell BK218.out 0).trans rfl, (blk_cell BK218.out 1).trans rfl, (blk_cell BK191.out 0).trans rfl, (blk_cell BK191.out 1).trans rfl⟩ (fun hHeld => ?_)
     clear hK K
     refine norm_ (a' := ?_) ?_ ?_
     rotate_left
     ·
      show Act.put _ (some 41) _ = _
      simp only [ap]; rfl
     refine pure_ (i := 3) (N := some 42) (v := ?_) (a' := ?_) (bA 22 15) rfl rfl (any_of HT_.out (by kernel_rfl)) (fun _ _ _ h => h) (Or.inl ⟨by rfl, ?_⟩) ?_ ?_
     rotate_left
     ·
      intro w'
      go_simp; with_reducible rfl
     rotate_left
     ·
      simp only [ap]
      rfl
     refine take_ (i := 4) (N := some 43) (v := ?_) (a' := ?_) (bA 22 31) rfl rfl (take_ofW HT_.out HW_.out (by kernel_rfl)) (fun _ _ _ h => h) (Or.inl ⟨by rfl, ?_⟩) hHeld ?_ ?_
     rotate_left
     ·
      rintro w' ⟨s0, s1, s2, s3, s4, s5⟩
      go_simp; with_reducible rfl
     rotate_left
     ·
      simp only [ap]
      rfl
     refine take_ (i := 5) (N := some 44) (v := ?_) (a' := ?_) (bA 22 63) rfl rfl (take_ofW HT_.out HW_.out (by kernel_rfl)) (fun _ _ _ h => h) (Or.inl ⟨by rfl, ?_⟩) hHeld ?_ ?_
     rotate_left
     ·
      rintro w' ⟨s0, s1, s2, s3, s4, s5⟩
      go_simp; with_reducible rfl
     rotate_left
     ·
      simp only [ap]
      rfl
     refine take_ (i := 7) (N := some 46) (v := ?_) (a' := ?_) (bA 22 191) rfl rfl (take_ofW HT_.out HW_.out (by kernel_rfl)) (fun _ _ _ h => h) (Or.inl ⟨by rfl, ?_⟩) hHeld ?_ ?_
     rotate_left
     ·
      rintro w' ⟨s0, s1, s2, s3, s4, s5⟩
      go_simp; with_reducible rfl
     rotate_left
     ·
      simp only [ap]
      rfl
     refine one_ (i := 6) (N := some 45) (bA 22 255) rfl rfl (one_of HT_.out (by kernel_rfl)) (by decide) (fun K hK => ?_)
     refine goes_ Try.func12 (by kernel_rfl) rfl #[.agg #[.int .i64 t216, .int .i64 t217], .agg #[.int .i64 t219, .int .i64 t220]] (by rfl) rfl rfl (by (try simp only [mp]); first | done | rfl | (simp only [ld]; rfl)) ?_
     with_reducible refine (ratio_Add.calls k t216 t217 t219 t220 t226 t227 _ A31.out).mono ?_
     rintro e w39 ⟨rfl, hb⟩
     refine ⟨_, rfl, ?_⟩
     replace HO195 := Aside0.mk (Kd.R_below (by (with_reducible repeat (first | apply Kd.R_alloc | apply Kd.R_drewN | apply Kd.R_drew)); exact HO195.out) hb)
     replace HO224 := Aside0.mk (Kd.R_below (by (with_reducible repeat (first | apply Kd.R_alloc | apply Kd.R_drewN | apply Kd.R_drew)); exact HO224.out) hb)
     replace BK191 := kb BK191 hb
     replace BK192 := kb BK192 hb
     replace BK218 := kb BK218 hb
     replace BK221 := kb BK221 hb
     replace HB := hs' HB (by repeat first | (with_reducible exact HB.out) | refine bl1 ?_ | (with_reducible refine bset ?_ ‹_›) | exact HB.out) hb
     (try clear hb); (try clear hb2); (try clear hk); (try clear hi)
     refine hK.out _ _ ⟨(blk_cell BK221.out 0).trans rfl, (blk_cell BK221.out 1).trans rfl, (blk_cell BK218.out 0).trans rfl, (blk_cell BK218.out 1).trans rfl, (blk_cell BK191.out 0).trans rfl, (blk_cell BK191.out 1).trans rfl⟩ (fun hHeld => ?_)
     clear hK K
     refine norm_ (a' := ?_) ?_ ?_
     rotate_left
     ·
      show Act.put _ (some 45) _ = _
      simp only [ap]; rfl
     refine pure_ (i := 8) (N := some 47) (v := ?_) (a' := ?_) (bA 22 511) rfl rfl (any_of HT_.out (by kernel_rfl)) (fun _ _ _ h => h) (Or.inl ⟨by rfl, ?_⟩) ?_ ?_
     rotate_left
     ·
      intro w'
      go_simp; with_reducible rfl
     rotate_left
     ·
      simp only [ap]
      rfl
     refine pure_ (i := 9) (N := some 48) (v := ?_) (a' := ?_) (bA 22 1023) rfl rfl (any_of HT_.out (by kernel_rfl)) (fun _ _ _ h => h) (Or.inl ⟨by rfl, ?_⟩) ?_ ?_
     rotate_left
     ·
      intro w'
      go_simp; with_reducible rfl
     rotate_left
     ·
      simp only [ap]
      rfl
     refine pure_ (i := 10) (N := some 49) (v := undef) (a' := ?_) (bA 22 2047) rfl rfl (any_of HT_.out (by kernel_rfl)) (fun _ _ _ h => h) (Or.inr ⟨by rfl, rfl⟩) ?_ ?_
     rotate_left
     ·
      simp only [ap]
      rfl
     refine pure_ (i := 11) (N := some 50) (v := undef) (a' := ?_) (bA 22 4095) rfl rfl (any_of HT_.out (by kernel_rfl)) (fun _ _ _ h => h) (Or.inr ⟨by rfl, rfl⟩) ?_ ?_
     rotate_left
     ·
      simp only [ap]
      rfl
     refine pure_ (i := 12) (N := some 51) (v := undef) (a' := ?_) (bA 22 8191) rfl rfl (any_of HT_.out (by kernel_rfl)) (fun _ _ _ h => h) (Or.inr ⟨by rfl, rfl⟩) ?_ ?_
     rotate_left
     ·
      simp only [ap]
      rfl
     refine pure_ (i := 13) (N := some 52) (v := undef) (a' := ?_) (bA 22 16383) rfl rfl (any_of HT_.out (by kernel_rfl)) (fun _ _ _ h => h) (Or.inr ⟨by rfl, rfl⟩) ?_ ?_
     rotate_left
     ·
      simp only [ap]
      rfl
     refine pure_ (i := 14) (N := some 53) (v := ?_) (a' := ?_) (bA 22 32767) rfl rfl (any_of HT_.out (by kernel_rfl)) (fun _ _ _ h => h) (Or.inl ⟨by rfl, ?_⟩) ?_ ?_
     rotate_left
     ·
      intro w'
      go_simp; with_reducible rfl
     rotate_left
     ·
      simp only [ap]
      rfl
     refine pure_ (i := 15) (N := some 54) (v := ?_) (a' := ?_) (bA 22 65535) rfl rfl (any_of HT_.out (by kernel_rfl)) (fun _ _ _ h => h) (Or.inl ⟨by rfl, ?_⟩) ?_ ?_
     rotate_left
     ·
      intro w'
      go_simp; with_reducible rfl
     rotate_left
     ·
      simp only [ap]
      rfl
     refine pure_ (i := 16) (N := some 55) (v := undef) (a' := ?_) (bA 22 131071) rfl rfl (any_of HT_.out (by kernel_rfl)) (fun _ _ _ h => h) (Or.inr ⟨by rfl, rfl⟩) ?_ ?_
     rotate_left
     ·
      simp only [ap]
      rfl
     refine pure_ (i := 17) (N := some 56) (v := undef) (a' := ?_) (bA 22 262143) rfl rfl (any_of HT_.out (by kernel_rfl)) (fun _ _ _ h => h) (Or.inr ⟨by rfl, rfl⟩) ?_ ?_
     rotate_left
     ·
      simp only [ap]
      rfl
     refine pure_ (i := 18) (N := some 57) (v := undef) (a' := ?_) (bA 22 524287) rfl rfl (any_of HT_.out (by kernel_rfl)) (fun _ _ _ h => h) (Or.inr ⟨by rfl, rfl⟩) ?_ ?_
     rotate_left
     ·
      simp only [ap]
      rfl
     refine pure_ (i := 19) (N := some 58) (v := undef) (a' := ?_) (bA 22 1048575) rfl rfl (any_of HT_.out (by kernel_rfl)) (fun _ _ _ h => h) (Or.inr ⟨by rfl, rfl⟩) ?_ ?_
     rotate_left
     ·
      simp only [ap]
      rfl
     refine pure_ (i := 20) (N := some 59) (v := ?_) (a' := ?_) (bA 22 2097151) rfl rfl (any_of HT_.out (by kernel_rfl)) (fun _ _ _ h => h) (Or.inl ⟨by rfl, ?_⟩) ?_ ?_
     rotate_left
     ·
      intro w'
      go_simp; with_reducible rfl
     rotate_left
     ·
      simp only [ap]
      rfl
     refine pure_ (i := 21) (N := some 60) (v := ?_) (a' := ?_) (bA 22 4194303) rfl rfl (any_of HT_.out (by kernel_rfl)) (fun _ _ _ h => h) (Or.inl ⟨by rfl, ?_⟩) ?_ ?_
     rotate_left
     ·
      intro w'
      go_simp; with_reducible rfl
     rotate_left
     ·
      simp only [ap]
      rfl
     refine done_ (done_of HT_.out (by kernel_rfl)) ?_
     try go_wp2
     go_meet
     case rel => exact ⟨_, (true), (by first | rfl | (simp; done) | (simp [*]; done)), H', ⟨by first | omega | exact Nat.le_refl _⟩, ⟨by refine bk ?_; exact BK191.out⟩, ⟨by refine bk ?_; exact BK192.out⟩, ⟨by refine bk ?_; exact BK218.out⟩, ⟨by refine bk ?_; exact BK221.out⟩, ⟨by repeat first | exact HB.out | refine bset ?_ ‹_› | apply below_alloc | apply pw_below_drewN | apply below_drew1⟩⟩
    ·
     rw [if_neg c32] at H
     have c32b0 : (!(t226 == a0_0) || (!(t227 == a0_1))) = false := by simpa using c32
     clear c32
     (first | rw [c32b0] | (simp only [i64_w, i32_w]; rw [c32b0]) | skip)
     replace H := Option.bind_eq_some_iff.mp H
     obtain ⟨t228, A400, H⟩ := H
     (try dsimp only at H)
     have A40 := Aside0.mk A400
     clear A400
     by_cases c41 : t228 < 0
     ·
      rw [if_pos c41] at H
      have c41b0 : decide (t228 < 0) = true := decide_eq_true c41
      clear c41
      have H' := Aside0.mk H
      clear H
      try go_wp2
      have n0_ : Aside0 (Kd.R k24 24 ((w24.setCell ⟨gb221, 0, none⟩ (.int .i64 t219)).setCell ⟨gb221, 1, none⟩ (.int .i64 t220)) w.heap.size (fun k_ => k_ ≠ gb191 ∧ k_ ≠ gb192 ∧ k_ ≠ gb218 ∧ k_ ≠ gb221) (.slice Ao14 y193.length co14) y193) := ⟨by (with_reducible repeat (first | apply Kd.R_alloc | apply Kd.R_drewN | apply Kd.R_drew)); exact Kd.R_mono (Kd.R_far (p := ⟨gb221, 1, none⟩) (Kd.R_far (p := ⟨gb221, 0, none⟩) (Kd.R_mono HO195.out (fun k_ hk => (⟨hk, hk.2⟩ : _ ∧ k_ ≠ gb221))) (fun _ hk => hk.2) (.int .i64 t219)) (fun _ hk => hk.2) (.int .i64 t220)) (fun _ hk => ⟨hk.1.1.1.1.2, ⟨hk.1.1.1.2, ⟨hk.1.1.2, hk.1.2⟩⟩⟩)⟩
      have n1_ : Aside0 (((w24.setCell ⟨gb221, 0, none⟩ (.int .i64 t219)).setCell ⟨gb221, 1, none⟩ (.int .i64 t220)).heap[gb191]? = some (.cells #[.int .i64 a0_0, .int .i64 a0_1] 24 (0, 0))) := ⟨by refine bk ?_; refine blk_far ?_ NB191_221.out _; refine bk ?_; refine blk_far ?_ NB191_221.out _; refine bk ?_; exact BK191.out⟩
      have n2_ : Aside0 (((w24.setCell ⟨gb221, 0, none⟩ (.int .i64 t219)).setCell ⟨gb221, 1, none⟩ (.int .i64 t220)).heap[gb192]? = some (.cells #[.int .i64 a1_0, .int .i64 a1_1] 24 (0, 0))) := ⟨by refine bk ?_; refine blk_far ?_ NB192_221.out _; refine bk ?_; refine blk_far ?_ NB192_221.out _; refine bk ?_; exact BK192.out⟩
      have n3_ : Aside0 (((w24.setCell ⟨gb221, 0, none⟩ (.int .i64 t219)).setCell ⟨gb221, 1, none⟩ (.int .i64 t220)).heap[gb218]? = some (.cells #[.int .i64 t216, .int .i64 t217] 24 (0, 0))) := ⟨by refine bk ?_; refine blk_far ?_ NB218_221.out _; refine bk ?_; refine blk_far ?_ NB218_221.out _; refine bk ?_; exact BK218.out⟩
      have n4_ : Aside0 (((w24.setCell ⟨gb221, 0, none⟩ (.int .i64 t219)).setCell ⟨gb221, 1, none⟩ (.int .i64 t220)).heap[gb221]? = some (.cells #[.int .i64 t219, .int .i64 t220] 24 (0, 0))) := ⟨by refine bk ?_; refine blk_put (cs := #[.int .i64 t219, .int .i64 0]) ?_ 1 _ rfl; refine bk ?_; refine blk_put (cs := #[.int .i64 0, .int .i64 0]) ?_ 0 _ rfl; refine bk ?_; exact BK221.out⟩
      have n5_ : Aside0 (Below w.heap.size w ((w24.setCell ⟨gb221, 0, none⟩ (.int .i64 t219)).setCell ⟨gb221, 1, none⟩ (.int .i64 t220))) := ⟨by repeat first | exact HB.out | refine bset ?_ ‹_› | apply below_alloc | apply pw_below_drewN | apply below_drew1⟩
      (try clear HO195); (try clear BK191); (try clear BK192); (try clear BK218); (try clear BK221); (try clear HB)
      generalize ((w24.setCell ⟨gb221, 0, none⟩ (.int .i64 t219)).setCell ⟨gb221, 1, none⟩ (.int .i64 t220)) = w42 at n0_ n1_ n2_ n3_ n4_ n5_ ⊢
      have HO195 := n0_
      have BK191 := n1_
      have BK192 := n2_
      have BK218 := n3_
      have BK221 := n4_
      have HB := n5_
      clear n0_ n1_ n2_ n3_ n4_ n5_
      replace HO195 := Aside0.mk (Kd.R_drew HO195.out)
      replace BK191 := kd BK191
      replace BK192 := kd BK192
      replace BK218 := kd BK218
      replace BK221 := kd BK221
      replace HB := Aside0.mk (below_drew1 HB.out)
      refine start_ (n := 22) (S := fun w' => w'.cell? ⟨gb221, 0, none⟩ = some (.int .i64 t219) ∧ w'.cell? ⟨gb221, 1, none⟩ = some (.int .i64 t220) ∧ w'.cell? ⟨gb218, 0, none⟩ = some (.int .i64 t216) ∧ w'.cell? ⟨gb218, 1, none⟩ = some (.int .i64 t217) ∧ w'.cell? ⟨gb191, 0, none⟩ = some (.int .i64 a0_0) ∧ w'.cell? ⟨gb191, 1, none⟩ = some (.int .i64 a0_1)) (ds := []) (bA 22 0) (by kernel_rfl) rfl rfl ⟨(blk_cell BK221.out 0).trans rfl, (blk_cell BK221.out 1).trans rfl, (blk_cell BK218.out 0).trans rfl, (blk_cell BK218.out 1).trans rfl, (blk_cell BK191.out 0).trans rfl, (blk_cell BK191.out 1).trans rfl⟩ (fun hHeld => ?_); refine with_tabW serinettelaw01_NumberRounds.tab5 serinettelaw01_NumberRounds.bits5 (fun HT_ HW_ => ?_)
      generalize w42.drew = w43 at HO195 BK191 BK192 BK218 BK221 HB hHeld ⊢
      refine take_ (i := 0) (N := some 39) (v := ?_) (a' := ?_) (bA 22 1) rfl rfl (take_ofW HT_.out HW_.out (by kernel_rfl)) (fun _ _ _ h => h) (Or.inl ⟨by rfl, ?_⟩) hHeld ?_ ?_
      rotate_left
      ·
       rintro w' ⟨s0, s1, s2, s3, s4, s5⟩
       go_simp; with_reducible rfl
      rotate_left
      ·
       simp only [ap]
       rfl
      refine one_ (i := 1) (N := some 40) (bA 22 3) rfl rfl (one_of HT_.out (by kernel_rfl)) (by decide) (fun K hK => ?_)
      refine Kd.R_lit_step k24 _ 24 ?hg (N := 40) ?hd (xs := ([(⟨t219, t220⟩ : S24)] : List (S24))) (inner := [.int .i64 t219, .int .i64 t220]) (ok := fun _ => True) (okp := fun _ => True) ?hr ?hp (fun _ hk => hk) trivial (Below.refl _ _) (Nat.le_refl _) (by simp) ?_; (case hd => rfl); (case hg => rfl); (case hr => first | (go_simp; done) | (go_simp; rfl)); (case hp => exact (Reps.c2 (show Kd.M k24 _ _ _ (⟨t219, t220⟩ : S24) [.int .i64 t219, .int .i64 t220] from (k24_mkM _ _ _ (⟨t219, t220⟩ : S24) )) (Reps.none _ _)))
      intro v223 w44 ho45 hb hg_ hnew_
      clear hg_ hnew_
      (first | rw [← Ny222.out] at ho45 | (simp only [Int.reduceToNat] at ho45; rw [← Ny222.out] at ho45))
      have HO224 := Aside0.mk (Kd.R_lower (Kd.R_newB (Kd.R_newB (Kd.R_newB (Kd.R_newB (Kd.R_new' ho45 (Kd.R_lt (by (with_reducible repeat (first | apply Kd.R_alloc | apply Kd.R_drewN | apply Kd.R_drew)); exact HO195.out))) (g := gb191) (o := .cells #[.int .i64 a0_0, .int .i64 a0_1] 24 (0, 0)) (bk BK191.out)) (g := gb192) (o := .cells #[.int .i64 a1_0, .int .i64 a1_1] 24 (0, 0)) (bk BK192.out)) (g := gb218) (o := .cells #[.int .i64 t216, .int .i64 t217] 24 (0, 0)) (bk BK218.out)) (g := gb221) (o := .cells #[.int .i64 t219, .int .i64 t220] 24 (0, 0)) (bk BK221.out)) (below_size (by repeat first | (with_reducible exact HB.out) | refine bl1 ?_ | (with_reducible refine bset ?_ ‹_›) | exact HB.out)))
      replace HO195 := Aside0.mk (Kd.R_elder' (by (with_reducible repeat (first | apply Kd.R_alloc | apply Kd.R_drewN | apply Kd.R_drew)); exact HO195.out) (Kd.R_base ho45) hb)
      replace BK191 := kb BK191 hb
      replace BK192 := kb BK192 hb
      replace BK218 := kb BK218 hb
      replace BK221 := kb BK221 hb
      replace HB := hs' HB (by repeat first | (with_reducible exact HB.out) | refine bl1 ?_ | (with_reducible refine bset ?_ ‹_›) | exact HB.out) hb
      clear hb ho45
      obtain ⟨Ao46, co46, eo46⟩ := Kd.R_slice HO224.out
      (first | subst eo46 | (injection eo46 with f1_ f2_ f3_; have f4_ := f1_.symm; have f5_ := f3_.symm; clear f1_ f2_ f3_; subst f4_; subst f5_))
      refine hK.out _ _ ⟨(blk_cell BK221.out 0).trans rfl, (blk_cell BK221.out 1).trans rfl, (blk_cell BK218.out 0).trans rfl, (blk_cell BK218.out 1).trans rfl, (blk_cell BK191.out 0).trans rfl, (blk_cell BK191.out 1).trans rfl⟩ (fun hHeld => ?_)
      clear hK K
      refine norm_ (a' := ?_) ?_ ?_
      rotate_left
      ·
       show Act.put _ (some 40) _ = _
       simp only [ap]; rfl
      refine one_ (i := 2) (N := some 41) (bA 22 7) rfl rfl (one_of HT_.out (by kernel_rfl)) (by decide) (fun K hK => ?_)
      refine goes_ Try.func14 (by kernel_rfl) rfl #[.slice Ao46 y222.length co46] (by rfl) rfl rfl (by (try simp only [mp]); first | done | rfl | (simp only [ld]; rfl)) ?_
      with_reducible refine (serinettelaw01_numbers.calls k _ _ y222 true _ ?side1 ?side2 A29.out).mono ?_
      (case side1 => repeat (first | exact (Kd.R_reads' HO224.out).2.2 | (with_reducible refine Kd.C_alloc ?_ _) | (with_reducible refine Kd.C_drewN ?_ _) | (with_reducible refine Kd.C_drew ?_)))
      (case side2 => exact (Kd.R_reads' HO224.out).2.1)
      rintro e w47 ⟨rfl, hb⟩
      refine ⟨_, rfl, ?_⟩
      replace HO195 := Aside0.mk (Kd.R_below (by (with_reducible repeat (first | apply Kd.R_alloc | apply Kd.R_drewN | apply Kd.R_drew)); exact HO195.out) hb)
      replace HO224 := Aside0.mk (Kd.R_below (by (with_reducible repeat (first | apply Kd.R_alloc | apply Kd.R_drewN | apply Kd.R_drew)); exact HO224.out) hb)
      replace BK191 := kb BK191 hb
      replace BK192 := kb BK192 hb
      replace BK218 := kb BK218 hb
      replace BK221 := kb BK221 hb
      replace HB := hs' HB (by repeat first | (with_reducible exact HB.out) | refine bl1 ?_ | (with_reducible refine bset ?_ ‹_›) | exact HB.out) hb
      (try clear hb); (try clear hb2); (try clear hk); (try clear hi)
      refine hK.out _ _ ⟨(blk_cell BK221.out 0).trans rfl, (blk_cell BK221.out 1).trans rfl, (blk_cell BK218.out 0).trans rfl, (blk_cell BK218.out 1).trans rfl, (blk_cell BK191.out 0).trans rfl, (blk_cell BK191.out 1).trans rfl⟩ (fun hHeld => ?_)
      clear hK K
      refine norm_ (a' := ?_) ?_ ?_
      rotate_left
      ·
       show Act.put _ (some 41) _ = _
       simp only [ap]; rfl
      refine pure_ (i := 3) (N := some 42) (v := ?_) (a' := ?_) (bA 22 15) rfl rfl (any_of HT_.out (by kernel_rfl)) (fun _ _ _ h => h) (Or.inl ⟨by rfl, ?_⟩) ?_ ?_
      rotate_left
      ·
       intro w'
       go_simp; with_reducible rfl
      rotate_left
      ·
       simp only [ap]
       rfl
      refine take_ (i := 4) (N := some 43) (v := ?_) (a' := ?_) (bA 22 31) rfl rfl (take_ofW HT_.out HW_.out (by kernel_rfl)) (fun _ _ _ h => h) (Or.inl ⟨by rfl, ?_⟩) hHeld ?_ ?_
      rotate_left
      ·
       rintro w' ⟨s0, s1, s2, s3, s4, s5⟩
       go_simp; with_reducible rfl
      rotate_left
      ·
       simp only [ap]
       rfl
      refine take_ (i := 5) (N := some 44) (v := ?_) (a' := ?_) (bA 22 63) rfl rfl (take_ofW HT_.out HW_.out (by kernel_rfl)) (fun _ _ _ h => h) (Or.inl ⟨by rfl, ?_⟩) hHeld ?_ ?_
      rotate_left
      ·
       rintro w' ⟨s0, s1, s2, s3, s4, s5⟩
       go_simp; with_reducible rfl
      rotate_left
      ·
       simp only [ap]
       rfl
      refine take_ (i := 7) (N := some 46) (v := ?_) (a' := ?_) (bA 22 191) rfl rfl (take_ofW HT_.out HW_.out (by kernel_rfl)) (fun _ _ _ h => h) (Or.inl ⟨by rfl, ?_⟩) hHeld ?_ ?_
      rotate_left
      ·
       rintro w' ⟨s0, s1, s2, s3, s4, s5⟩
       go_simp; with_reducible rfl
      rotate_left
      ·
       simp only [ap]
       rfl
      refine one_ (i := 6) (N := some 45) (bA 22 255) rfl rfl (one_of HT_.out (by kernel_rfl)) (by decide) (fun K hK => ?_)
      refine goes_ Try.func12 (by kernel_rfl) rfl #[.agg #[.int .i64 t216, .int .i64 t217], .agg #[.int .i64 t219, .int .i64 t220]] (by rfl) rfl rfl (by (try simp only [mp]); first | done | rfl | (simp only [ld]; rfl)) ?_
      with_reducible refine (ratio_Add.calls k t216 t217 t219 t220 t226 t227 _ A31.out).mono ?_
      rintro e w48 ⟨rfl, hb⟩
      refine ⟨_, rfl, ?_⟩
      replace HO195 := Aside0.mk (Kd.R_below (by (with_reducible repeat (first | apply Kd.R_alloc | apply Kd.R_drewN | apply Kd.R_drew)); exact HO195.out) hb)
      replace HO224 := Aside0.mk (Kd.R_below (by (with_reducible repeat (first | apply Kd.R_alloc | apply Kd.R_drewN | apply Kd.R_drew)); exact HO224.out) hb)
      replace BK191 := kb BK191 hb
      replace BK192 := kb BK192 hb
      replace BK218 := kb BK218 hb
      replace BK221 := kb BK221 hb
      replace HB := hs' HB (by repeat first | (with_reducible exact HB.out) | refine bl1 ?_ | (with_reducible refine bset ?_ ‹_›) | exact HB.out) hb
      (try clear hb); (try clear hb2); (try clear hk); (try clear hi)
      refine hK.out _ _ ⟨(blk_cell BK221.out 0).trans rfl, (blk_cell BK221.out 1).trans rfl, (blk_cell BK218.out 0).trans rfl, (blk_cell BK218.out 1).trans rfl, (blk_cell BK191.out 0).trans rfl, (blk_cell BK191.out 1).trans rfl⟩ (fun hHeld => ?_)
      clear hK K
      refine norm_ (a' := ?_) ?_ ?_
      rotate_left
      ·
       show Act.put _ (some 45) _ = _
       simp only [ap]; rfl
      refine pure_ (i := 8) (N := some 47) (v := ?_) (a' := ?_) (bA 22 511) rfl rfl (any_of HT_.out (by kernel_rfl)) (fun _ _ _ h => h) (Or.inl ⟨by rfl, ?_⟩) ?_ ?_
      rotate_left
      ·
       intro w'
       go_simp; with_reducible rfl
      rotate_left
      ·
       simp only [ap]
       rfl
      refine pure_ (i := 9) (N := some 48) (v := ?_) (a' := ?_) (bA 22 1023) rfl rfl (any_of HT_.out (by kernel_rfl)) (fun _ _ _ h => h) (Or.inl ⟨by rfl, ?_⟩) ?_ ?_
      rotate_left
      ·
       intro w'
       go_simp; with_reducible rfl
      rotate_left
      ·
       simp only [ap]
       rfl
      refine pure_ (i := 11) (N := some 50) (v := ?_) (a' := ?_) (bA 22 3071) rfl rfl (any_of HT_.out (by kernel_rfl)) (fun _ _ _ h => h) (Or.inl ⟨by rfl, ?_⟩) ?_ ?_
      rotate_left
      ·
       intro w'
       go_simp; with_reducible rfl
      rotate_left
      ·
       simp only [ap]
       rfl
      refine take_ (i := 10) (N := some 49) (v := ?_) (a' := ?_) (bA 22 4095) rfl rfl (take_ofW HT_.out HW_.out (by kernel_rfl)) (fun _ _ _ h => h) (Or.inl ⟨by rfl, ?_⟩) hHeld ?_ ?_
      rotate_left
      ·
       rintro w' ⟨s0, s1, s2, s3, s4, s5⟩
       go_simp; with_reducible rfl
      rotate_left
      ·
       simp only [ap]
       rfl
      refine one_ (i := 12) (N := some 51) (bA 22 8191) rfl rfl (one_of HT_.out (by kernel_rfl)) (by decide) (fun K hK => ?_)
      refine goes_ Try.func19 (by kernel_rfl) rfl #[.agg #[.int .i64 t219, .int .i64 t220], .agg #[.int .i64 0, .int .i64 1]] (by rfl) rfl rfl (by (try simp only [mp]); first | done | rfl | (simp only [ld]; rfl)) ?_
      with_reducible refine (ratio_Cmp.calls k t219 t220 0 1 t228 _ A40.out).mono ?_
      rintro e w49 ⟨rfl, hb⟩
      refine ⟨_, rfl, ?_⟩
      replace HO195 := Aside0.mk (Kd.R_below (by (with_reducible repeat (first | apply Kd.R_alloc | apply Kd.R_drewN | apply Kd.R_drew)); exact HO195.out) hb)
      replace HO224 := Aside0.mk (Kd.R_below (by (with_reducible repeat (first | apply Kd.R_alloc | apply Kd.R_drewN | apply Kd.R_drew)); exact HO224.out) hb)
      replace BK191 := kb BK191 hb
      replace BK192 := kb BK192 hb
      replace BK218 := kb BK218 hb
      replace BK221 := kb BK221 hb
      replace HB := hs' HB (by repeat first | (with_reducible exact HB.out) | refine bl1 ?_ | (with_reducible refine bset ?_ ‹_›) | exact HB.out) hb
      (try clear hb); (try clear hb2); (try clear hk); (try clear hi)
      refine hK.out _ _ ⟨(blk_cell BK221.out 0).trans rfl, (blk_cell BK221.out 1).trans rfl, (blk_cell BK218.out 0).trans rfl, (blk_cell BK218.out 1).trans rfl, (blk_cell BK191.out 0).trans rfl, (blk_cell BK191.out 1).trans rfl⟩ (fun hHeld => ?_)
      clear hK K
      refine norm_ (a' := ?_) ?_ ?_
      rotate_left
      ·
       show Act.put _ (some 51) _ = _
       simp only [ap]; rfl
      refine pure_ (i := 13) (N := some 52) (v := ?_) (a' := ?_) (bA 22 16383) rfl rfl (any_of HT_.out (by kernel_rfl)) (fun _ _ _ h => h) (Or.inl ⟨by rfl, ?_⟩) ?_ ?_
      rotate_left
      ·
       intro w'
       go_simp; with_reducible rfl
      rotate_left
      ·
       simp only [ap]
       rfl
      refine pure_ (i := 14) (N := some 53) (v := ?_) (a' := ?_) (bA 22 32767) rfl rfl (any_of HT_.out (by kernel_rfl)) (fun _ _ _ h => h) (Or.inl ⟨by rfl, ?_⟩) ?_ ?_
      rotate_left
      ·
       intro w'
       go_simp; with_reducible rfl
      rotate_left
      ·
       simp only [ap]
       rfl
      refine pure_ (i := 15) (N := some 54) (v := ?_) (a' := ?_) (bA 22 65535) rfl rfl (any_of HT_.out (by kernel_rfl)) (fun _ _ _ h => h) (Or.inl ⟨by rfl, ?_⟩) ?_ ?_
      rotate_left
      ·
       intro w'
       go_simp; with_reducible rfl
      rotate_left
      ·
       simp only [ap]
       rfl
      refine pure_ (i := 16) (N := some 55) (v := undef) (a' := ?_) (bA 22 131071) rfl rfl (any_of HT_.out (by kernel_rfl)) (fun _ _ _ h => h) (Or.inr ⟨by rfl, rfl⟩) ?_ ?_
      rotate_left
      ·
       simp only [ap]
       rfl
      refine pure_ (i := 17) (N := some 56) (v := undef) (a' := ?_) (bA 22 262143) rfl rfl (any_of HT_.out (by kernel_rfl)) (fun _ _ _ h => h) (Or.inr ⟨by rfl, rfl⟩) ?_ ?_
      rotate_left
      ·
       simp only [ap]
       rfl
      refine pure_ (i := 18) (N := some 57) (v := undef) (a' := ?_) (bA 22 524287) rfl rfl (any_of HT_.out (by kernel_rfl)) (fun _ _ _ h => h) (Or.inr ⟨by rfl, rfl⟩) ?_ ?_
      rotate_left
      ·
       simp only [ap]
       rfl
      refine pure_ (i := 19) (N := some 58) (v := undef) (a' := ?_) (bA 22 1048575) rfl rfl (any_of HT_.out (by kernel_rfl)) (fun _ _ _ h => h) (Or.inr ⟨by rfl, rfl⟩) ?_ ?_
      rotate_left
      ·
       simp only [ap]
       rfl
      refine pure_ (i := 20) (N := some 59) (v := ?_) (a' := ?_) (bA 22 2097151) rfl rfl (any_of HT_.out (by kernel_rfl)) (fun _ _ _ h => h) (Or.inl ⟨by rfl, ?_⟩) ?_ ?_
      rotate_left
      ·
       intro w'
       go_simp; with_reducible rfl
      rotate_left
      ·
       simp only [ap]
       rfl
      refine pure_ (i := 21) (N := some 60) (v := ?_) (a' := ?_) (bA 22 4194303) rfl rfl (any_of HT_.out (by kernel_rfl)) (fun _ _ _ h => h) (Or.inl ⟨by rfl, ?_⟩) ?_ ?_
      rotate_left
      ·
       intro w'
       go_simp; with_reducible rfl
      rotate_left
      ·
       simp only [ap]
       rfl
      refine done_ (done_of HT_.out (by kernel_rfl)) ?_
      try go_wp2
      go_meet
      case rel => exact ⟨_, (true), (by first | rfl | (simp; done) | (simp [*]; done)), H', ⟨by first | omega | exact Nat.le_refl _⟩, ⟨by refine bk ?_; exact BK191.out⟩, ⟨by refine bk ?_; exact BK192.out⟩, ⟨by refine bk ?_; exact BK218.out⟩, ⟨by refine bk ?_; exact BK221.out⟩, ⟨by repeat first | exact HB.out | refine bset ?_ ‹_› | apply below_alloc | apply pw_below_drewN | apply below_drew1⟩⟩
     ·
      rw [if_neg c41] at H
      have c41b0 : decide (t228 < 0) = false := decide_eq_false c41
      clear c41
      replace H := Option.bind_eq_some_iff.mp H
      obtain ⟨t229, A500, H⟩ := H
      (try dsimp only at H)
      have A50 := Aside0.mk A500
      clear A500
      have H' := Aside0.mk H
      clear H
      try go_wp2
      have n0_ : Aside0 (Kd.R k24 24 ((w24.setCell ⟨gb221, 0, none⟩ (.int .i64 t219)).setCell ⟨gb221, 1, none⟩ (.int .i64 t220)) w.heap.size (fun k_ => k_ ≠ gb191 ∧ k_ ≠ gb192 ∧ k_ ≠ gb218 ∧ k_ ≠ gb221) (.slice Ao14 y193.length co14) y193) := ⟨by (with_reducible repeat (first | apply Kd.R_alloc | apply Kd.R_drewN | apply Kd.R_drew)); exact Kd.R_mono (Kd.R_far (p := ⟨gb221, 1, none⟩) (Kd.R_far (p := ⟨gb221, 0, none⟩) (Kd.R_mono HO195.out (fun k_ hk => (⟨hk, hk.2⟩ : _ ∧ k_ ≠ gb221))) (fun _ hk => hk.2) (.int .i64 t219)) (fun _ hk => hk.2) (.int .i64 t220)) (fun _ hk => ⟨hk.1.1.1.1.2, ⟨hk.1.1.1.2, ⟨hk.1.1.2, hk.1.2⟩⟩⟩)⟩
      have n1_ : Aside0 (((w24.setCell ⟨gb221, 0, none⟩ (.int .i64 t219)).setCell ⟨gb221, 1, none⟩ (.int .i64 t220)).heap[gb191]? = some (.cells #[.int .i64 a0_0, .int .i64 a0_1] 24 (0, 0))) := ⟨by refine bk ?_; refine blk_far ?_ NB191_221.out _; refine bk ?_; refine blk_far ?_ NB191_221.out _; refine bk ?_; exact BK191.out⟩
      have n2_ : Aside0 (((w24.setCell ⟨gb221, 0, none⟩ (.int .i64 t219)).setCell ⟨gb221, 1, none⟩ (.int .i64 t220)).heap[gb192]? = some (.cells #[.int .i64 a1_0, .int .i64 a1_1] 24 (0, 0))) := ⟨by refine bk ?_; refine blk_far ?_ NB192_221.out _; refine bk ?_; refine blk_far ?_ NB192_221.out _; refine bk ?_; exact BK192.out⟩
      have n3_ : Aside0 (((w24.setCell ⟨gb221, 0, none⟩ (.int .i64 t219)).setCell ⟨gb221, 1, none⟩ (.int .i64 t220)).heap[gb218]? = some (.cells #[.int .i64 t216, .int .i64 t217] 24 (0, 0))) := ⟨by refine bk ?_; refine blk_far ?_ NB218_221.out _; refine bk ?_; refine blk_far ?_ NB218_221.out _; refine bk ?_; exact BK218.out⟩
      have n4_ : Aside0 (((w24.setCell ⟨gb221, 0, none⟩ (.int .i64 t219)).setCell ⟨gb221, 1, none⟩ (.int .i64 t220)).heap[gb221]? = some (.cells #[.int .i64 t219, .int .i64 t220] 24 (0, 0))) := ⟨by refine bk ?_; refine blk_put (cs := #[.int .i64 t219, .int .i64 0]) ?_ 1 _ rfl; refine bk ?_; refine blk_put (cs := #[.int .i64 0, .int .i64 0]) ?_ 0 _ rfl; refine bk ?_; exact BK221.out⟩
      have n5_ : Aside0 (Below w.heap.size w ((w24.setCell ⟨gb221, 0, none⟩ (.int .i64 t219)).setCell ⟨gb221, 1, none⟩ (.int .i64 t220))) := ⟨by repeat first | exact HB.out | refine bset ?_ ‹_› | apply below_alloc | apply pw_below_drewN | apply below_drew1⟩
      (try clear HO195); (try clear BK191); (try clear BK192); (try clear BK218); (try clear BK221); (try clear HB)
      generalize ((w24.setCell ⟨gb221, 0, none⟩ (.int .i64 t219)).setCell ⟨gb221, 1, none⟩ (.int .i64 t220)) = w51 at n0_ n1_ n2_ n3_ n4_ n5_ ⊢
      have HO195 := n0_
      have BK191 := n1_
      have BK192 := n2_
      have BK218 := n3_
      have BK221 := n4_
      have HB := n5_
      clear n0_ n1_ n2_ n3_ n4_ n5_
      replace HO195 := Aside0.mk (Kd.R_drew HO195.out)
      replace BK191 := kd BK191
      replace BK192 := kd BK192
      replace BK218 := kd BK218
      replace BK221 := kd BK221
      replace HB := Aside0.mk (below_drew1 HB.out)
      refine start_ (n := 22) (S := fun w' => w'.cell? ⟨gb221, 0, none⟩ = some (.int .i64 t219) ∧ w'.cell? ⟨gb221, 1, none⟩ = some (.int .i64 t220) ∧ w'.cell? ⟨gb218, 0, none⟩ = some (.int .i64 t216) ∧ w'.cell? ⟨gb218, 1, none⟩ = some (.int .i64 t217) ∧ w'.cell? ⟨gb191, 0, none⟩ = some (.int .i64 a0_0) ∧ w'.cell? ⟨gb191, 1, none⟩ = some (.int .i64 a0_1)) (ds := []) (bA 22 0) (by kernel_rfl) rfl rfl ⟨(blk_cell BK221.out 0).trans rfl, (blk_cell BK221.out 1).trans rfl, (blk_cell BK218.out 0).trans rfl, (blk_cell BK218.out 1).trans rfl, (blk_cell BK191.out 0).trans rfl, (blk_cell BK191.out 1).trans rfl⟩ (fun hHeld => ?_); refine with_tabW serinettelaw01_NumberRounds.tab5 serinettelaw01_NumberRounds.bits5 (fun HT_ HW_ => ?_)
      generalize w51.drew = w52 at HO195 BK191 BK192 BK218 BK221 HB hHeld ⊢
      refine take_ (i := 0) (N := some 39) (v := ?_) (a' := ?_) (bA 22 1) rfl rfl (take_ofW HT_.out HW_.out (by kernel_rfl)) (fun _ _ _ h => h) (Or.inl ⟨by rfl, ?_⟩) hHeld ?_ ?_
      rotate_left
      ·
       rintro w' ⟨s0, s1, s2, s3, s4, s5⟩
       go_simp; with_reducible rfl
      rotate_left
      ·
       simp only [ap]
       rfl
      refine one_ (i := 1) (N := some 40) (bA 22 3) rfl rfl (one_of HT_.out (by kernel_rfl)) (by decide) (fun K hK => ?_)
      refine Kd.R_lit_step k24 _ 24 ?hg (N := 40) ?hd (xs := ([(⟨t219, t220⟩ : S24)] : List (S24))) (inner := [.int .i64 t219, .int .i64 t220]) (ok := fun _ => True) (okp := fun _ => True) ?hr ?hp (fun _ hk => hk) trivial (Below.refl _ _) (Nat.le_refl _) (by simp) ?_; (case hd => rfl); (case hg => rfl); (case hr => first | (go_simp; done) | (go_simp; rfl)); (case hp => exact (Reps.c2 (show Kd.M k24 _ _ _ (⟨t219, t220⟩ : S24) [.int .i64 t219, .int .i64 t220] from (k24_mkM _ _ _ (⟨t219, t220⟩ : S24) )) (Reps.none _ _)))
      intro v223 w53 ho54 hb hg_ hnew_
      clear hg_ hnew_
      (first | rw [← Ny222.out] at ho54 | (simp only [Int.reduceToNat] at ho54; rw [← Ny222.out] at ho54))
      have HO224 := Aside0.mk (Kd.R_lower (Kd.R_newB (Kd.R_newB (Kd.R_newB (Kd.R_newB (Kd.R_new' ho54 (Kd.R_lt (by (with_reducible repeat (first | apply Kd.R_alloc | apply Kd.R_drewN | apply Kd.R_drew)); exact HO195.out))) (g := gb191) (o := .cells #[.int .i64 a0_0, .int .i64 a0_1] 24 (0, 0)) (bk BK191.out)) (g := gb192) (o := .cells #[.int .i64 a1_0, .int .i64 a1_1] 24 (0, 0)) (bk BK192.out)) (g := gb218) (o := .cells #[.int .i64 t216, .int .i64 t217] 24 (0, 0)) (bk BK218.out)) (g := gb221) (o := .cells #[.int .i64 t219, .int .i64 t220] 24 (0, 0)) (bk BK221.out)) (below_size (by repeat first | (with_reducible exact HB.out) | refine bl1 ?_ | (with_reducible refine bset ?_ ‹_›) | exact HB.out)))
      replace HO195 := Aside0.mk (Kd.R_elder' (by (with_reducible repeat (first | apply Kd.R_alloc | apply Kd.R_drewN | apply Kd.R_drew)); exact HO195.out) (Kd.R_base ho54) hb)
      replace BK191 := kb BK191 hb
      replace BK192 := kb BK192 hb
      replace BK218 := kb BK218 hb
      replace BK221 := kb BK221 hb
      replace HB := hs' HB (by repeat first | (with_reducible exact HB.out) | refine bl1 ?_ | (with_reducible refine bset ?_ ‹_›) | exact HB.out) hb
      clear hb ho54
      obtain ⟨Ao55, co55, eo55⟩ := Kd.R_slice HO224.out
      (first | subst eo55 | (injection eo55 with f1_ f2_ f3_; have f4_ := f1_.symm; have f5_ := f3_.symm; clear f1_ f2_ f3_; subst f4_; subst f5_))
      refine hK.out _ _ ⟨(blk_cell BK221.out 0).trans rfl, (blk_cell BK221.out 1).trans rfl, (blk_cell BK218.out 0).trans rfl, (blk_cell BK218.out 1).trans rfl, (blk_cell BK191.out 0).trans rfl, (blk_cell BK191.out 1).trans rfl⟩ (fun hHeld => ?_)
      clear hK K
      refine norm_ (a' := ?_) ?_ ?_
      rotate_left
      ·
       show Act.put _ (some 40) _ = _
       simp only [ap]; rfl
      refine one_ (i := 2) (N := some 41) (bA 22 7) rfl rfl (one_of HT_.out (by kernel_rfl)) (by decide) (fun K hK => ?_)
      refine goes_ Try.func14 (by kernel_rfl) rfl #[.slice Ao55 y222.length co55] (by rfl) rfl rfl (by (try simp only [mp]); first | done | rfl | (simp only [ld]; rfl)) ?_
      with_reducible refine (serinettelaw01_numbers.calls k _ _ y222 true _ ?side1 ?side2 A29.out).mono ?_
      (case side1 => repeat (first | exact (Kd.R_reads' HO224.out).2.2 | (with_reducible refine Kd.C_alloc ?_ _) | (with_reducible refine Kd.C_drewN ?_ _) | (with_reducible refine Kd.C_drew ?_)))
      (case side2 => exact (Kd.R_reads' HO224.out).2.1)
      rintro e w56 ⟨rfl, hb⟩
      refine ⟨_, rfl, ?_⟩
      replace HO195 := Aside0.mk (Kd.R_below (by (with_reducible repeat (first | apply Kd.R_alloc | apply Kd.R_drewN | apply Kd.R_drew)); exact HO195.out) hb)
      replace HO224 := Aside0.mk (Kd.R_below (by (with_reducible repeat (first | apply Kd.R_alloc | apply Kd.R_drewN | apply Kd.R_drew)); exact HO224.out) hb)
      replace BK191 := kb BK191 hb
      replace BK192 := kb BK192 hb
      replace BK218 := kb BK218 hb
      replace BK221 := kb BK221 hb
      replace HB := hs' HB (by repeat first | (with_reducible exact HB.out) | refine bl1 ?_ | (with_reducible refine bset ?_ ‹_›) | exact HB.out) hb
      (try clear hb); (try clear hb2); (try clear hk); (try clear hi)
      refine hK.out _ _ ⟨(blk_cell BK221.out 0).trans rfl, (blk_cell BK221.out 1).trans rfl, (blk_cell BK218.out 0).trans rfl, (blk_cell BK218.out 1).trans rfl, (blk_cell BK191.out 0).trans rfl, (blk_cell BK191.out 1).trans rfl⟩ (fun hHeld => ?_)
      clear hK K
      refine norm_ (a' := ?_) ?_ ?_
      rotate_left
      ·
       show Act.put _ (some 41) _ = _
       simp only [ap]; rfl
      refine pure_ (i := 3) (N := some 42) (v := ?_) (a' := ?_) (bA 22 15) rfl rfl (any_of HT_.out (by kernel_rfl)) (fun _ _ _ h => h) (Or.inl ⟨by rfl, ?_⟩) ?_ ?_
      rotate_left
      ·
       intro w'
       go_simp; with_reducible rfl
      rotate_left
      ·
       simp only [ap]
       rfl
      refine take_ (i := 4) (N := some 43) (v := ?_) (a' := ?_) (bA 22 31) rfl rfl (take_ofW HT_.out HW_.out (by kernel_rfl)) (fun _ _ _ h => h) (Or.inl ⟨by rfl, ?_⟩) hHeld ?_ ?_
      rotate_left
      ·
       rintro w' ⟨s0, s1, s2, s3, s4, s5⟩
       go_simp; with_reducible rfl
      rotate_left
      ·
       simp only [ap]
       rfl
      refine take_ (i := 5) (N := some 44) (v := ?_) (a' := ?_) (bA 22 63) rfl rfl (take_ofW HT_.out HW_.out (by kernel_rfl)) (fun _ _ _ h => h) (Or.inl ⟨by rfl, ?_⟩) hHeld ?_ ?_
      rotate_left
      ·
       rintro w' ⟨s0, s1, s2, s3, s4, s5⟩
       go_simp; with_reducible rfl
      rotate_left
      ·
       simp only [ap]
       rfl
      refine take_ (i := 7) (N := some 46) (v := ?_) (a' := ?_) (bA 22 191) rfl rfl (take_ofW HT_.out HW_.out (by kernel_rfl)) (fun _ _ _ h => h) (Or.inl ⟨by rfl, ?_⟩) hHeld ?_ ?_
      rotate_left
      ·
       rintro w' ⟨s0, s1, s2, s3, s4, s5⟩
       go_simp; with_reducible rfl
      rotate_left
      ·
       simp only [ap]
       rfl
      refine one_ (i := 6) (N := some 45) (bA 22 255) rfl rfl (one_of HT_.out (by kernel_rfl)) (by decide) (fun K hK => ?_)
      refine goes_ Try.func12 (by kernel_rfl) rfl #[.agg #[.int .i64 t216, .int .i64 t217], .agg #[.int .i64 t219, .int .i64 t220]] (by rfl) rfl rfl (by (try simp only [mp]); first | done | rfl | (simp only [ld]; rfl)) ?_
      with_reducible refine (ratio_Add.calls k t216 t217 t219 t220 t226 t227 _ A31.out).mono ?_
      rintro e w57 ⟨rfl, hb⟩
      refine ⟨_, rfl, ?_⟩
      replace HO195 := Aside0.mk (Kd.R_below (by (with_reducible repeat (first | apply Kd.R_alloc | apply Kd.R_drewN | apply Kd.R_drew)); exact HO195.out) hb)
      replace HO224 := Aside0.mk (Kd.R_below (by (with_reducible repeat (first | apply Kd.R_alloc | apply Kd.R_drewN | apply Kd.R_drew)); exact HO224.out) hb)
      replace BK191 := kb BK191 hb
      replace BK192 := kb BK192 hb
      replace BK218 := kb BK218 hb
      replace BK221 := kb BK221 hb
      replace HB := hs' HB (by repeat first | (with_reducible exact HB.out) | refine bl1 ?_ | (with_reducible refine bset ?_ ‹_›) | exact HB.out) hb
      (try clear hb); (try clear hb2); (try clear hk); (try clear hi)
      refine hK.out _ _ ⟨(blk_cell BK221.out 0).trans rfl, (blk_cell BK221.out 1).trans rfl, (blk_cell BK218.out 0).trans rfl, (blk_cell BK218.out 1).trans rfl, (blk_cell BK191.out 0).trans rfl, (blk_cell BK191.out 1).trans rfl⟩ (fun hHeld => ?_)
      clear hK K
      refine norm_ (a' := ?_) ?_ ?_
      rotate_left
      ·
       show Act.put _ (some 45) _ = _
       simp only [ap]; rfl
      refine pure_ (i := 8) (N := some 47) (v := ?_) (a' := ?_) (bA 22 511) rfl rfl (any_of HT_.out (by kernel_rfl)) (fun _ _ _ h => h) (Or.inl ⟨by rfl, ?_⟩) ?_ ?_
      rotate_left
      ·
       intro w'
       go_simp; with_reducible rfl
      rotate_left
      ·
       simp only [ap]
       rfl
      refine pure_ (i := 9) (N := some 48) (v := ?_) (a' := ?_) (bA 22 1023) rfl rfl (any_of HT_.out (by kernel_rfl)) (fun _ _ _ h => h) (Or.inl ⟨by rfl, ?_⟩) ?_ ?_
      rotate_left
      ·
       intro w'
       go_simp; with_reducible rfl
      rotate_left
      ·
       simp only [ap]
       rfl
      refine pure_ (i := 11) (N := some 50) (v := ?_) (a' := ?_) (bA 22 3071) rfl rfl (any_of HT_.out (by kernel_rfl)) (fun _ _ _ h => h) (Or.inl ⟨by rfl, ?_⟩) ?_ ?_
      rotate_left
      ·
       intro w'
       go_simp; with_reducible rfl
      rotate_left
      ·
       simp only [ap]
       rfl
      refine take_ (i := 10) (N := some 49) (v := ?_) (a' := ?_) (bA 22 4095) rfl rfl (take_ofW HT_.out HW_.out (by kernel_rfl)) (fun _ _ _ h => h) (Or.inl ⟨by rfl, ?_⟩) hHeld ?_ ?_
      rotate_left
      ·
       rintro w' ⟨s0, s1, s2, s3, s4, s5⟩
       go_simp; with_reducible rfl
      rotate_left
      ·
       simp only [ap]
       rfl
      refine one_ (i := 12) (N := some 51) (bA 22 8191) rfl rfl (one_of HT_.out (by kernel_rfl)) (by decide) (fun K hK => ?_)
      refine goes_ Try.func19 (by kernel_rfl) rfl #[.agg #[.int .i64 t219, .int .i64 t220], .agg #[.int .i64 0, .int .i64 1]] (by rfl) rfl rfl (by (try simp only [mp]); first | done | rfl | (simp only [ld]; rfl)) ?_
      with_reducible refine (ratio_Cmp.calls k t219 t220 0 1 t228 _ A40.out).mono ?_
      rintro e w58 ⟨rfl, hb⟩
      refine ⟨_, rfl, ?_⟩
      replace HO195 := Aside0.mk (Kd.R_below (by (with_reducible repeat (first | apply Kd.R_alloc | apply Kd.R_drewN | apply Kd.R_drew)); exact HO195.out) hb)
      replace HO224 := Aside0.mk (Kd.R_below (by (with_reducible repeat (first | apply Kd.R_alloc | apply Kd.R_drewN | apply Kd.R_drew)); exact HO224.out) hb)
      replace BK191 := kb BK191 hb
      replace BK192 := kb BK192 hb
      replace BK218 := kb BK218 hb
      replace BK221 := kb BK221 hb
      replace HB := hs' HB (by repeat first | (with_reducible exact HB.out) | refine bl1 ?_ | (with_reducible refine bset ?_ ‹_›) | exact HB.out) hb
      (try clear hb); (try clear hb2); (try clear hk); (try clear hi)
      refine hK.out _ _ ⟨(blk_cell BK221.out 0).trans rfl, (blk_cell BK221.out 1).trans rfl, (blk_cell BK218.out 0).trans rfl, (blk_cell BK218.out 1).trans rfl, (blk_cell BK191.out 0).trans rfl, (blk_cell BK191.out 1).trans rfl⟩ (fun hHeld => ?_)
      clear hK K
      refine norm_ (a' := ?_) ?_ ?_
      rotate_left
      ·
       show Act.put _ (some 51) _ = _
       simp only [ap]; rfl
      refine pure_ (i := 13) (N := some 52) (v := ?_) (a' := ?_) (bA 22 16383) rfl rfl (any_of HT_.out (by kernel_rfl)) (fun _ _ _ h => h) (Or.inl ⟨by rfl, ?_⟩) ?_ ?_
      rotate_left
      ·
       intro w'
       go_simp; with_reducible rfl
      rotate_left
      ·
       simp only [ap]
       rfl
      refine pure_ (i := 14) (N := some 53) (v := ?_) (a' := ?_) (bA 22 32767) rfl rfl (any_of HT_.out (by kernel_rfl)) (fun _ _ _ h => h) (Or.inl ⟨by rfl, ?_⟩) ?_ ?_
      rotate_left
      ·
       intro w'
       go_simp; with_reducible rfl
      rotate_left
      ·
       simp only [ap]
       rfl
      refine pure_ (i := 15) (N := some 54) (v := ?_) (a' := ?_) (bA 22 65535) rfl rfl (any_of HT_.out (by kernel_rfl)) (fun _ _ _ h => h) (Or.inl ⟨by rfl, ?_⟩) ?_ ?_
      rotate_left
      ·
       intro w'
       go_simp; with_reducible rfl
      rotate_left
      ·
       simp only [ap]
       rfl
      refine pure_ (i := 17) (N := some 56) (v := ?_) (a' := ?_) (bA 22 196607) rfl rfl (any_of HT_.out (by kernel_rfl)) (fun _ _ _ h => h) (Or.inl ⟨by rfl, ?_⟩) ?_ ?_
      rotate_left
      ·
       intro w'
       go_simp; with_reducible rfl
      rotate_left
      ·
       simp only [ap]
       rfl
      refine take_ (i := 16) (N := some 55) (v := ?_) (a' := ?_) (bA 22 262143) rfl rfl (take_ofW HT_.out HW_.out (by kernel_rfl)) (fun _ _ _ h => h) (Or.inl ⟨by rfl, ?_⟩) hHeld ?_ ?_
      rotate_left
      ·
       rintro w' ⟨s0, s1, s2, s3, s4, s5⟩
       go_simp; with_reducible rfl
      rotate_left
      ·
       simp only [ap]
       rfl
      refine one_ (i := 18) (N := some 57) (bA 22 524287) rfl rfl (one_of HT_.out (by kernel_rfl)) (by decide) (fun K hK => ?_)
      refine goes_ Try.func19 (by kernel_rfl) rfl #[.agg #[.int .i64 t219, .int .i64 t220], .agg #[.int .i64 1, .int .i64 1]] (by rfl) rfl rfl (by (try simp only [mp]); first | done | rfl | (simp only [ld]; rfl)) ?_
      with_reducible refine (ratio_Cmp.calls k t219 t220 1 1 t229 _ A50.out).mono ?_
      rintro e w59 ⟨rfl, hb⟩
      refine ⟨_, rfl, ?_⟩
      replace HO195 := Aside0.mk (Kd.R_below (by (with_reducible repeat (first | apply Kd.R_alloc | apply Kd.R_drewN | apply Kd.R_drew)); exact HO195.out) hb)
      replace HO224 := Aside0.mk (Kd.R_below (by (with_reducible repeat (first | apply Kd.R_alloc | apply Kd.R_drewN | apply Kd.R_drew)); exact HO224.out) hb)
      replace BK191 := kb BK191 hb
      replace BK192 := kb BK192 hb
      replace BK218 := kb BK218 hb
      replace BK221 := kb BK221 hb
      replace HB := hs' HB (by repeat first | (with_reducible exact HB.out) | refine bl1 ?_ | (with_reducible refine bset ?_ ‹_›) | exact HB.out) hb
      (try clear hb); (try clear hb2); (try clear hk); (try clear hi)
      refine hK.out _ _ ⟨(blk_cell BK221.out 0).trans rfl, (blk_cell BK221.out 1).trans rfl, (blk_cell BK218.out 0).trans rfl, (blk_cell BK218.out 1).trans rfl, (blk_cell BK191.out 0).trans rfl, (blk_cell BK191.out 1).trans rfl⟩ (fun hHeld => ?_)
      clear hK K
      refine norm_ (a' := ?_) ?_ ?_
      rotate_left
      ·
       show Act.put _ (some 57) _ = _
       simp only [ap]; rfl
      refine pure_ (i := 19) (N := some 58) (v := ?_) (a' := ?_) (bA 22 1048575) rfl rfl (any_of HT_.out (by kernel_rfl)) (fun _ _ _ h => h) (Or.inl ⟨by rfl, ?_⟩) ?_ ?_
      rotate_left
      ·
       intro w'
       go_simp; with_reducible rfl
      rotate_left
      ·
       simp only [ap]
       rfl
      refine pure_ (i := 20) (N := some 59) (v := ?_) (a' := ?_) (bA 22 2097151) rfl rfl (any_of HT_.out (by kernel_rfl)) (fun _ _ _ h => h) (Or.inl ⟨by rfl, ?_⟩) ?_ ?_
      rotate_left
      ·
       intro w'
       go_simp; with_reducible rfl
      rotate_left
      ·
       simp only [ap]
       rfl
      refine pure_ (i := 21) (N := some 60) (v := ?_) (a' := ?_) (bA 22 4194303) rfl rfl (any_of HT_.out (by kernel_rfl)) (fun _ _ _ h => h) (Or.inl ⟨by rfl, ?_⟩) ?_ ?_
      rotate_left
      ·
       intro w'
       go_simp; with_reducible rfl
      rotate_left
      ·
       simp only [ap]
       rfl
      refine done_ (done_of HT_.out (by kernel_rfl)) ?_
      try go_wp2
      go_meet
      case rel => exact ⟨_, (decide (t229 ≥ 0)), (by first | rfl | (simp; done) | (simp [*]; done)), H', ⟨by first | omega | exact Nat.le_refl _⟩, ⟨by refine bk ?_; exact BK191.out⟩, ⟨by refine bk ?_; exact BK192.out⟩, ⟨by refine bk ?_; exact BK218.out⟩, ⟨by refine bk ?_; exact BK221.out⟩, ⟨by repeat first | exact HB.out | refine bset ?_ ‹_› | apply below_alloc | apply pw_below_drewN | apply below_drew1⟩⟩
   ·
    replace c30 := Bool.eq_false_iff.mpr c30
    subst c30
    rw [if_neg (show ¬ (false = true) by decide)] at H
    have H' := Aside0.mk H
    clear H
    try go_wp2
    have n0_ : Aside0 (Kd.R k24 24 ((w24.setCell ⟨gb221, 0, none⟩ (.int .i64 t219)).setCell ⟨gb221, 1, none⟩ (.int .i64 t220)) w.heap.size (fun k_ => k_ ≠ gb191 ∧ k_ ≠ gb192 ∧ k_ ≠ gb218 ∧ k_ ≠ gb221) (.slice Ao14 y193.length co14) y193) := ⟨by (with_reducible repeat (first | apply Kd.R_alloc | apply Kd.R_drewN | apply Kd.R_drew)); exact Kd.R_mono (Kd.R_far (p := ⟨gb221, 1, none⟩) (Kd.R_far (p := ⟨gb221, 0, none⟩) (Kd.R_mono HO195.out (fun k_ hk => (⟨hk, hk.2⟩ : _ ∧ k_ ≠ gb221))) (fun _ hk => hk.2) (.int .i64 t219)) (fun _ hk => hk.2) (.int .i64 t220)) (fun _ hk => ⟨hk.1.1.1.1.2, ⟨hk.1.1.1.2, ⟨hk.1.1.2, hk.1.2⟩⟩⟩)⟩
    have n1_ : Aside0 (((w24.setCell ⟨gb221, 0, none⟩ (.int .i64 t219)).setCell ⟨gb221, 1, none⟩ (.int .i64 t220)).heap[gb191]? = some (.cells #[.int .i64 a0_0, .int .i64 a0_1] 24 (0, 0))) := ⟨by refine bk ?_; refine blk_far ?_ NB191_221.out _; refine bk ?_; refine blk_far ?_ NB191_221.out _; refine bk ?_; exact BK191.out⟩
    have n2_ : Aside0 (((w24.setCell ⟨gb221, 0, none⟩ (.int .i64 t219)).setCell ⟨gb221, 1, none⟩ (.int .i64 t220)).heap[gb192]? = some (.cells #[.int .i64 a1_0, .int .i64 a1_1] 24 (0, 0))) := ⟨by refine bk ?_; refine blk_far ?_ NB192_221.out _; refine bk ?_; refine blk_far ?_ NB192_221.out _; refine bk ?_; exact BK192.out⟩
    have n3_ : Aside0 (((w24.setCell ⟨gb221, 0, none⟩ (.int .i64 t219)).setCell ⟨gb221, 1, none⟩ (.int .i64 t220)).heap[gb218]? = some (.cells #[.int .i64 t216, .int .i64 t217] 24 (0, 0))) := ⟨by refine bk ?_; refine blk_far ?_ NB218_221.out _; refine bk ?_; refine blk_far ?_ NB218_221.out _; refine bk ?_; exact BK218.out⟩
    have n4_ : Aside0 (((w24.setCell ⟨gb221, 0, none⟩ (.int .i64 t219)).setCell ⟨gb221, 1, none⟩ (.int .i64 t220)).heap[gb221]? = some (.cells #[.int .i64 t219, .int .i64 t220] 24 (0, 0))) := ⟨by refine bk ?_; refine blk_put (cs := #[.int .i64 t219, .int .i64 0]) ?_ 1 _ rfl; refine bk ?_; refine blk_put (cs := #[.int .i64 0, .int .i64 0]) ?_ 0 _ rfl; refine bk ?_; exact BK221.out⟩
    have n5_ : Aside0 (Below w.heap.size w ((w24.setCell ⟨gb221, 0, none⟩ (.int .i64 t219)).setCell ⟨gb221, 1, none⟩ (.int .i64 t220))) := ⟨by repeat first | exact HB.out | refine bset ?_ ‹_› | apply below_alloc | apply pw_below_drewN | apply below_drew1⟩
    (try clear HO195); (try clear BK191); (try clear BK192); (try clear BK218); (try clear BK221); (try clear HB)
    generalize ((w24.setCell ⟨gb221, 0, none⟩ (.int .i64 t219)).setCell ⟨gb221, 1, none⟩ (.int .i64 t220)) = w60 at n0_ n1_ n2_ n3_ n4_ n5_ ⊢
    have HO195 := n0_
    have BK191 := n1_
    have BK192 := n2_
    have BK218 := n3_
    have BK221 := n4_
    have HB := n5_
    clear n0_ n1_ n2_ n3_ n4_ n5_
    replace HO195 := Aside0.mk (Kd.R_drew HO195.out)
    replace BK191 := kd BK191
    replace BK192 := kd BK192
    replace BK218 := kd BK218
    replace BK221 := kd BK221
    replace HB := Aside0.mk (below_drew1 HB.out)
    refine start_ (n := 22) (S := fun w' => w'.cell? ⟨gb221, 0, none⟩ = some (.int .i64 t219) ∧ w'.cell? ⟨gb221, 1, none⟩ = some (.int .i64 t220)) (ds := []) (bA 22 0) (by kernel_rfl) rfl rfl ⟨(blk_cell BK221.out 0).trans rfl, (blk_cell BK221.out 1).trans rfl⟩ (fun hHeld => ?_); refine with_tabW serinettelaw01_NumberRounds.tab5 serinettelaw01_NumberRounds.bits5 (fun HT_ HW_ => ?_)
    generalize w60.drew = w61 at HO195 BK191 BK192 BK218 BK221 HB hHeld ⊢
    refine take_ (i := 0) (N := some 39) (v := ?_) (a' := ?_) (bA 22 1) rfl rfl (take_ofW HT_.out HW_.out (by kernel_rfl)) (fun _ _ _ h => h) (Or.inl ⟨by rfl, ?_⟩) hHeld ?_ ?_
    rotate_left
    ·
     rintro w' ⟨s0, s1⟩
     go_simp; with_reducible rfl
    rotate_left
    ·
     simp only [ap]
     rfl
    refine one_ (i := 1) (N := some 40) (bA 22 3) rfl rfl (one_of HT_.out (by kernel_rfl)) (by decide) (fun K hK => ?_)
    refine Kd.R_lit_step k24 _ 24 ?hg (N := 40) ?hd (xs := ([(⟨t219, t220⟩ : S24)] : List (S24))) (inner := [.int .i64 t219, .int .i64 t220]) (ok := fun _ => True) (okp := fun _ => True) ?hr ?hp (fun _ hk => hk) trivial (Below.refl _ _) (Nat.le_refl _) (by simp) ?_; (case hd => rfl); (case hg => rfl); (case hr => first | (go_simp; done) | (go_simp; rfl)); (case hp => exact (Reps.c2 (show Kd.M k24 _ _ _ (⟨t219, t220⟩ : S24) [.int .i64 t219, .int .i64 t220] from (k24_mkM _ _ _ (⟨t219, t220⟩ : S24) )) (Reps.none _ _)))
    intro v223 w62 ho63 hb hg_ hnew_
    clear hg_ hnew_
    (first | rw [← Ny222.out] at ho63 | (simp only [Int.reduceToNat] at ho63; rw [← Ny222.out] at ho63))
    have HO224 := Aside0.mk (Kd.R_lower (Kd.R_newB (Kd.R_newB (Kd.R_newB (Kd.R_newB (Kd.R_new' ho63 (Kd.R_lt (by (with_reducible repeat (first | apply Kd.R_alloc | apply Kd.R_drewN | apply Kd.R_drew)); exact HO195.out))) (g := gb191) (o := .cells #[.int .i64 a0_0, .int .i64 a0_1] 24 (0, 0)) (bk BK191.out)) (g := gb192) (o := .cells #[.int .i64 a1_0, .int .i64 a1_1] 24 (0, 0)) (bk BK192.out)) (g := gb218) (o := .cells #[.int .i64 t216, .int .i64 t217] 24 (0, 0)) (bk BK218.out)) (g := gb221) (o := .cells #[.int .i64 t219, .int .i64 t220] 24 (0, 0)) (bk BK221.out)) (below_size (by repeat first | (with_reducible exact HB.out) | refine bl1 ?_ | (with_reducible refine bset ?_ ‹_›) | exact HB.out)))
    replace HO195 := Aside0.mk (Kd.R_elder' (by (with_reducible repeat (first | apply Kd.R_alloc | apply Kd.R_drewN | apply Kd.R_drew)); exact HO195.out) (Kd.R_base ho63) hb)
    replace BK191 := kb BK191 hb
    replace BK192 := kb BK192 hb
    replace BK218 := kb BK218 hb
    replace BK221 := kb BK221 hb
    replace HB := hs' HB (by repeat first | (with_reducible exact HB.out) | refine bl1 ?_ | (with_reducible refine bset ?_ ‹_›) | exact HB.out) hb
    clear hb ho63
    obtain ⟨Ao64, co64, eo64⟩ := Kd.R_slice HO224.out
    (first | subst eo64 | (injection eo64 with f1_ f2_ f3_; have f4_ := f1_.symm; have f5_ := f3_.symm; clear f1_ f2_ f3_; subst f4_; subst f5_))
    refine hK.out _ _ ⟨(blk_cell BK221.out 0).trans rfl, (blk_cell BK221.out 1).trans rfl⟩ (fun hHeld => ?_)
    clear hK K
    refine norm_ (a' := ?_) ?_ ?_
    rotate_left
    ·
     show Act.put _ (some 40) _ = _
     simp only [ap]; rfl
    refine one_ (i := 2) (N := some 41) (bA 22 7) rfl rfl (one_of HT_.out (by kernel_rfl)) (by decide) (fun K hK => ?_)
    refine goes_ Try.func14 (by kernel_rfl) rfl #[.slice Ao64 y222.length co64] (by rfl) rfl rfl (by (try simp only [mp]); first | done | rfl | (simp only [ld]; rfl)) ?_
    with_reducible refine (serinettelaw01_numbers.calls k _ _ y222 false _ ?side1 ?side2 A29.out).mono ?_
    (case side1 => repeat (first | exact (Kd.R_reads' HO224.out).2.2 | (with_reducible refine Kd.C_alloc ?_ _) | (with_reducible refine Kd.C_drewN ?_ _) | (with_reducible refine Kd.C_drew ?_)))
    (case side2 => exact (Kd.R_reads' HO224.out).2.1)
    rintro e w65 ⟨rfl, hb⟩
    refine ⟨_, rfl, ?_⟩
    replace HO195 := Aside0.mk (Kd.R_below (by (with_reducible repeat (first | apply Kd.R_alloc | apply Kd.R_drewN | apply Kd.R_drew)); exact HO195.out) hb)
    replace HO224 := Aside0.mk (Kd.R_below (by (with_reducible repeat (first | apply Kd.R_alloc | apply Kd.R_drewN | apply Kd.R_drew)); exact HO224.out) hb)
    replace BK191 := kb BK191 hb
    replace BK192 := kb BK192 hb
    replace BK218 := kb BK218 hb
    replace BK221 := kb BK221 hb
    replace HB := hs' HB (by repeat first | (with_reducible exact HB.out) | refine bl1 ?_ | (with_reducible refine bset ?_ ‹_›) | exact HB.out) hb
    (try clear hb); (try clear hb2); (try clear hk); (try clear hi)
    refine hK.out _ _ ⟨(blk_cell BK221.out 0).trans rfl, (blk_cell BK221.out 1).trans rfl⟩ (fun hHeld => ?_)
    clear hK K
    refine norm_ (a' := ?_) ?_ ?_
    rotate_left
    ·
     show Act.put _ (some 41) _ = _
     simp only [ap]; rfl
    refine pure_ (i := 3) (N := some 42) (v := ?_) (a' := ?_) (bA 22 15) rfl rfl (any_of HT_.out (by kernel_rfl)) (fun _ _ _ h => h) (Or.inl ⟨by rfl, ?_⟩) ?_ ?_
    rotate_left
    ·
     intro w'
     go_simp; with_reducible rfl
    rotate_left
    ·
     simp only [ap]
     rfl
    refine pure_ (i := 4) (N := some 43) (v := undef) (a' := ?_) (bA 22 31) rfl rfl (any_of HT_.out (by kernel_rfl)) (fun _ _ _ h => h) (Or.inr ⟨by rfl, rfl⟩) ?_ ?_
    rotate_left
    ·
     simp only [ap]
     rfl
    refine pure_ (i := 5) (N := some 44) (v := undef) (a' := ?_) (bA 22 63) rfl rfl (any_of HT_.out (by kernel_rfl)) (fun _ _ _ h => h) (Or.inr ⟨by rfl, rfl⟩) ?_ ?_
    rotate_left
    ·
     simp only [ap]
     rfl
    refine pure_ (i := 6) (N := some 45) (v := undef) (a' := ?_) (bA 22 127) rfl rfl (any_of HT_.out (by kernel_rfl)) (fun _ _ _ h => h) (Or.inr ⟨by rfl, rfl⟩) ?_ ?_
    rotate_left
    ·
     simp only [ap]
     rfl
    refine pure_ (i := 7) (N := some 46) (v := undef) (a' := ?_) (bA 22 255) rfl rfl (any_of HT_.out (by kernel_rfl)) (fun _ _ _ h => h) (Or.inr ⟨by rfl, rfl⟩) ?_ ?_
    rotate_left
    ·
     simp only [ap]
     rfl
    refine pure_ (i := 8) (N := some 47) (v := undef) (a' := ?_) (bA 22 511) rfl rfl (any_of HT_.out (by kernel_rfl)) (fun _ _ _ h => h) (Or.inr ⟨by rfl, rfl⟩) ?_ ?_
    rotate_left
    ·
     simp only [ap]
     rfl
    refine pure_ (i := 9) (N := some 48) (v := undef) (a' := ?_) (bA 22 1023) rfl rfl (any_of HT_.out (by kernel_rfl)) (fun _ _ _ h => h) (Or.inr ⟨by rfl, rfl⟩) ?_ ?_
    rotate_left
    ·
     simp only [ap]
     rfl
    refine pure_ (i := 10) (N := some 49) (v := undef) (a' := ?_) (bA 22 2047) rfl rfl (any_of HT_.out (by kernel_rfl)) (fun _ _ _ h => h) (Or.inr ⟨by rfl, rfl⟩) ?_ ?_
    rotate_left
    ·
     simp only [ap]
     rfl
    refine pure_ (i := 11) (N := some 50) (v := undef) (a' := ?_) (bA 22 4095) rfl rfl (any_of HT_.out (by kernel_rfl)) (fun _ _ _ h => h) (Or.inr ⟨by rfl, rfl⟩) ?_ ?_
    rotate_left
    ·
     simp only [ap]
     rfl
    refine pure_ (i := 12) (N := some 51) (v := undef) (a' := ?_) (bA 22 8191) rfl rfl (any_of HT_.out (by kernel_rfl)) (fun _ _ _ h => h) (Or.inr ⟨by rfl, rfl⟩) ?_ ?_
    rotate_left
    ·
     simp only [ap]
     rfl
    refine pure_ (i := 13) (N := some 52) (v := undef) (a' := ?_) (bA 22 16383) rfl rfl (any_of HT_.out (by kernel_rfl)) (fun _ _ _ h => h) (Or.inr ⟨by rfl, rfl⟩) ?_ ?_
    rotate_left
    ·
     simp only [ap]
     rfl
    refine pure_ (i := 14) (N := some 53) (v := undef) (a' := ?_) (bA 22 32767) rfl rfl (any_of HT_.out (by kernel_rfl)) (fun _ _ _ h => h) (Or.inr ⟨by rfl, rfl⟩) ?_ ?_
    rotate_left
    ·
     simp only [ap]
     rfl
    refine pure_ (i := 15) (N := some 54) (v := undef) (a' := ?_) (bA 22 65535) rfl rfl (any_of HT_.out (by kernel_rfl)) (fun _ _ _ h => h) (Or.inr ⟨by rfl, rfl⟩) ?_ ?_
    rotate_left
    ·
     simp only [ap]
     rfl
    refine pure_ (i := 16) (N := some 55) (v := undef) (a' := ?_) (bA 22 131071) rfl rfl (any_of HT_.out (by kernel_rfl)) (fun _ _ _ h => h) (Or.inr ⟨by rfl, rfl⟩) ?_ ?_
    rotate_left
    ·
     simp only [ap]
     rfl
    refine pure_ (i := 17) (N := some 56) (v := undef) (a' := ?_) (bA 22 262143) rfl rfl (any_of HT_.out (by kernel_rfl)) (fun _ _ _ h => h) (Or.inr ⟨by rfl, rfl⟩) ?_ ?_
    rotate_left
    ·
     simp only [ap]
     rfl
    refine pure_ (i := 18) (N := some 57) (v := undef) (a' := ?_) (bA 22 524287) rfl rfl (any_of HT_.out (by kernel_rfl)) (fun _ _ _ h => h) (Or.inr ⟨by rfl, rfl⟩) ?_ ?_
    rotate_left
    ·
     simp only [ap]
     rfl
    refine pure_ (i := 19) (N := some 58) (v := undef) (a' := ?_) (bA 22 1048575) rfl rfl (any_of HT_.out (by kernel_rfl)) (fun _ _ _ h => h) (Or.inr ⟨by rfl, rfl⟩) ?_ ?_
    rotate_left
    ·
     simp only [ap]
     rfl
    refine pure_ (i := 20) (N := some 59) (v := undef) (a' := ?_) (bA 22 2097151) rfl rfl (any_of HT_.out (by kernel_rfl)) (fun _ _ _ h => h) (Or.inr ⟨by rfl, rfl⟩) ?_ ?_
    rotate_left
    ·
     simp only [ap]
     rfl
    refine pure_ (i := 21) (N := some 60) (v := ?_) (a' := ?_) (bA 22 4194303) rfl rfl (any_of HT_.out (by kernel_rfl)) (fun _ _ _ h => h) (Or.inl ⟨by rfl, ?_⟩) ?_ ?_
    rotate_left
    ·
     intro w'
     go_simp; with_reducible rfl
    rotate_left
    ·
     simp only [ap]
     rfl
    refine done_ (done_of HT_.out (by kernel_rfl)) ?_
    try go_wp2
    go_meet
    case rel => exact ⟨_, (false), (by first | rfl | (simp; done) | (simp [*]; done)), H', ⟨by first | omega | exact Nat.le_refl _⟩, ⟨by refine bk ?_; exact BK191.out⟩, ⟨by refine bk ?_; exact BK192.out⟩, ⟨by refine bk ?_; exact BK218.out⟩, ⟨by refine bk ?_; exact BK221.out⟩, ⟨by repeat first | exact HB.out | refine bset ?_ ‹_› | apply below_alloc | apply pw_below_drewN | apply below_drew1⟩⟩
  case rest =>
   clear HC7
   (try clear c1); (try clear c2); (try clear p2); (try clear c3); (try clear c12); (try clear c14); (try clear c19); (try clear c30)
   obtain ⟨kq, x60_6, rfl, HA, HJ6, BK191, BK192, BK218, BK221, HB⟩ := hcut
   cases kq with
   | zero => exact absurd HA.out (by simp [serinettelaw01_NumberRounds.j0])
   | succ kj6 =>
    have H := HA.out
    clear HA
    simp only [serinettelaw01_NumberRounds.j0] at H
    by_cases c66 : x60_6 = true
    ·
     subst c66
     rw [if_pos rfl] at H
     exact absurd (H.trans (congrArg some hr.out)) (by simp)
    ·
     replace c66 := Bool.eq_false_iff.mpr c66
     subst c66
     rw [if_neg (show ¬ (false = true) by decide)] at H
     replace H := Option.bind_eq_some_iff.mp H
     obtain ⟨⟨t230, t231⟩, A670, H⟩ := H
     (try dsimp only at H)
     have A67 := Aside0.mk A670
     clear A670
     have HC68 := Aside0.mk H
     clear H
     have hnb69 := NB191_192.out
     have hnc69 := NB192_191.out
     have hnb70 := NB191_218.out
     have hnc70 := NB218_191.out
     have hnb71 := NB191_221.out
     have hnc71 := NB221_191.out
     have hcz72_0 : wc.cell? ⟨gb191, 0, none⟩ = some (.int .i64 a0_0) := (blk_cell BK191.out 0).trans rfl
     have hcz72_1 : wc.cell? ⟨gb191, 1, none⟩ = some (.int .i64 a0_1) := (blk_cell BK191.out 1).trans rfl
     have hfz72_0 := blk_frozen BK191.out 0
     have hfz72_1 := blk_frozen BK191.out 1
     have hnb73 := NB192_218.out
     have hnc73 := NB218_192.out
     have hnb74 := NB192_221.out
     have hnc74 := NB221_192.out
     have hcz75_0 : wc.cell? ⟨gb192, 0, none⟩ = some (.int .i64 a1_0) := (blk_cell BK192.out 0).trans rfl
     have hcz75_1 : wc.cell? ⟨gb192, 1, none⟩ = some (.int .i64 a1_1) := (blk_cell BK192.out 1).trans rfl
     have hfz75_0 := blk_frozen BK192.out 0
     have hfz75_1 := blk_frozen BK192.out 1
     go_upto_region 8 with (first | ((with_reducible refine gate_callee (f := 16) rfl ?_); refine goesL_ (some 63) rfl rfl Try.func16 (by kernel_rfl) rfl #[.agg #[.int .i64 a0_0, .int .i64 a0_1], .agg #[.int .i64 a1_0, .int .i64 a1_1]] rfl (by (try simp only [mp]); first | done | rfl | (simp only [ld]; rfl)) ?_; (with_reducible refine (ratio_Mod.calls kj6 a0_0 a0_1 a1_0 a1_1 t230 t231 _ A67.out).mono ?_); rintro e w76 ⟨rfl, hb⟩; refine ⟨_, rfl, ?_⟩; replace BK191 := kb BK191 hb; replace BK192 := kb BK192 hb; replace BK218 := kb BK218 hb; replace BK221 := kb BK221 hb; replace HB := hs' HB (by repeat first | (with_reducible exact HB.out) | refine bl1 ?_ | (with_reducible refine bset ?_ ‹_›) | exact HB.out) hb; (try clear hb); (try clear hb2); (try clear hk); (try clear hi)) | ((with_reducible refine gate_dst (N := 7) rfl ?_); (try (refine gate_guard (by rfl) ?_; dsimp only)); refine box_event ?hg (N := 7) ?hd (cs := #[.int .i64 0, .int .i64 0]) (t := 24) ?hr ?_; (case hd => rfl); (case hg => rfl); (case hr => first | (go_simp; done) | (go_simp; rfl)); intro gb232 hg w77 hbox hb; have BK232 := Aside0.mk (hbox); have GW232 := bz' HB hg (by repeat first | (with_reducible exact HB.out) | refine bl1 ?_ | (with_reducible refine bset ?_ ‹_›) | exact HB.out); have GE232 := bz' HB hg (by repeat first | (with_reducible exact HB.out) | refine bl1 ?_ | (with_reducible refine bset ?_ ‹_›) | exact HB.out); have NB191_232 := nlk hg BK191; have NB232_191 := ngk hg BK191; have NB192_232 := nlk hg BK192; have NB232_192 := ngk hg BK192; have NB218_232 := nlk hg BK218; have NB232_218 := ngk hg BK218; have NB221_232 := nlk hg BK221; have NB232_221 := ngk hg BK221; replace BK191 := kb BK191 hb; replace BK192 := kb BK192 hb; replace BK218 := kb BK218 hb; replace BK221 := kb BK221 hb; replace HB := hs' HB (by repeat first | (with_reducible exact HB.out) | refine bl1 ?_ | (with_reducible refine bset ?_ ‹_›) | exact HB.out) hb; clear hb hbox hg; have hnb78 := NB232_191.out; have hnc78 := NB191_232.out; have hnb79 := NB232_192.out; have hnc79 := NB192_232.out; have hnb80 := NB232_218.out; have hnc80 := NB218_232.out; have hnb81 := NB232_221.out; have hnc81 := NB221_232.out; have hcz82_0 : w77.cell? ⟨gb232, 0, none⟩ = some (.int .i64 0) := (blk_cell BK232.out 0).trans rfl; have hcz82_1 : w77.cell? ⟨gb232, 1, none⟩ = some (.int .i64 0) := (blk_cell BK232.out 1).trans rfl; have hfz82_0 := blk_frozen BK232.out 0; have hfz82_1 := blk_frozen BK232.out 1))
     (try simp only [Act.put, List.setIfInBounds_toArray, List.set_cons_zero, List.set_cons_succ])
     go_cut [95] (fun v95 wc => ∃ (kq : Nat) (x95_67 : Bool), v95 = .bool x95_67 ∧ Aside0 (serinettelaw01_NumberRounds.j1 kq x95_67 a0_0 a0_1 = some r) ∧ Aside0 (kq ≤ kj6) ∧ Aside0 (wc.heap[gb191]? = some (.cells #[.int .i64 a0_0, .int .i64 a0_1] 24 (0, 0))) ∧ Aside0 (wc.heap[gb192]? = some (.cells #[.int .i64 a1_0, .int .i64 a1_1] 24 (0, 0))) ∧ Aside0 (wc.heap[gb218]? = some (.cells #[.int .i64 t216, .int .i64 t217] 24 (0, 0))) ∧ Aside0 (wc.heap[gb221]? = some (.cells #[.int .i64 t219, .int .i64 t220] 24 (0, 0))) ∧ Aside0 (wc.heap[gb232]? = some (.cells #[.int .i64 t230, .int .i64 t231] 24 (0, 0))) ∧ Aside0 (Below w.heap.size w wc))
     case first =>
      have H := HC68.out
      clear HC68
      obtain ⟨y233, hy233⟩ : ∃ y_ : List (S24), y_ = (([(⟨t230, t231⟩ : S24), (⟨a1_0, a1_1⟩ : S24)] : List (S24))) := ⟨_, rfl⟩
      replace H : ((serinettelaw01_numbers.f kj6 y233).bind fun t236 => (if t236 = true then (if t230 < 0 then (if a1_0 > 0 then (serinettelaw01_NumberRounds.j1 kj6 true a0_0 a0_1) else (if t230 > 0 then (if a1_0 < 0 then (serinettelaw01_NumberRounds.j1 kj6 true a0_0 a0_1) else ((ratio_Abs.f kj6 t230 t231).bind fun bt237 => ((ratio_Abs.f kj6 a1_0 a1_1).bind fun bt239 => ((ratio_Cmp.f kj6 bt237.1 bt237.2 bt239.1 bt239.2).bind fun t241 => (serinettelaw01_NumberRounds.j1 kj6 (decide (t241 ≥ 0)) a0_0 a0_1))))) else ((ratio_Abs.f kj6 t230 t231).bind fun bt242 => ((ratio_Abs.f kj6 a1_0 a1_1).bind fun bt244 => ((ratio_Cmp.f kj6 bt242.1 bt242.2 bt244.1 bt244.2).bind fun t246 => (serinettelaw01_NumberRounds.j1 kj6 (decide (t246 ≥ 0)) a0_0 a0_1)))))) else (if t230 > 0 then (if a1_0 < 0 then (serinettelaw01_NumberRounds.j1 kj6 true a0_0 a0_1) else ((ratio_Abs.f kj6 t230 t231).bind fun bt247 => ((ratio_Abs.f kj6 a1_0 a1_1).bind fun bt249 => ((ratio_Cmp.f kj6 bt247.1 bt247.2 bt249.1 bt249.2).bind fun t251 => (serinettelaw01_NumberRounds.j1 kj6 (decide (t251 ≥ 0)) a0_0 a0_1))))) else ((ratio_Abs.f kj6 t230 t231).bind fun bt252 => ((ratio_Abs.f kj6 a1_0 a1_1).bind fun bt254 => ((ratio_Cmp.f kj6 bt252.1 bt252.2 bt254.1 bt254.2).bind fun t256 => (serinettelaw01_NumberRounds.j1 kj6 (decide (t256 ≥ 0)) a0_0 a0_1)))))) else (serinettelaw01_NumberRounds.j1 kj6 false a0_0 a0_1))) = some r := by first | (rw [hy233]; with_reducible exact H) | (have H2_ := (Option.bind_some _ _).symm.trans H; rw [hy233]; with_reducible exact H2_) | (have H2_ := (Option.bind_some _ _).symm.trans H; with_reducible exact H2_) | with_reducible exact H | (rw [hy233]; exact H) | exact H
      have Ny233 := Aside0.mk hy233
      clear hy233
      replace H := Option.bind_eq_some_iff.mp H
      obtain ⟨t236, A830, H⟩ := H
      (try dsimp only at H)
      have A83 := Aside0.mk A830
      clear A830
      by_cases c84 : t236 = true
      ·
       subst c84
       rw [if_pos rfl] at H
       by_cases c85 : t230 < 0
       ·
        rw [if_pos c85] at H
        have c85b0 : decide (t230 < 0) = true := decide_eq_true c85
        clear c85
        (first | rw [c85b0] | (simp only [i64_w, i32_w]; rw [c85b0]) | skip)
        by_cases c86 : a1_0 > 0
        ·
         rw [if_pos c86] at H
         have c86b0 : decide (0 < a1_0) = true := decide_eq_true c86
         clear c86
         have H' := Aside0.mk H
         clear H
         try go_wp2
         have n0_ : Aside0 (((w77.setCell ⟨gb232, 0, none⟩ (.int .i64 t230)).setCell ⟨gb232, 1, none⟩ (.int .i64 t231)).heap[gb191]? = some (.cells #[.int .i64 a0_0, .int .i64 a0_1] 24 (0, 0))) := ⟨by refine bk ?_; refine blk_far ?_ NB191_232.out _; refine bk ?_; refine blk_far ?_ NB191_232.out _; refine bk ?_; exact BK191.out⟩
         have n1_ : Aside0 (((w77.setCell ⟨gb232, 0, none⟩ (.int .i64 t230)).setCell ⟨gb232, 1, none⟩ (.int .i64 t231)).heap[gb192]? = some (.cells #[.int .i64 a1_0, .int .i64 a1_1] 24 (0, 0))) := ⟨by refine bk ?_; refine blk_far ?_ NB192_232.out _; refine bk ?_; refine blk_far ?_ NB192_232.out _; refine bk ?_; exact BK192.out⟩
         have n2_ : Aside0 (((w77.setCell ⟨gb232, 0, none⟩ (.int .i64 t230)).setCell ⟨gb232, 1, none⟩ (.int .i64 t231)).heap[gb218]? = some (.cells #[.int .i64 t216, .int .i64 t217] 24 (0, 0))) := ⟨by refine bk ?_; refine blk_far ?_ NB218_232.out _; refine bk ?_; refine blk_far ?_ NB218_232.out _; refine bk ?_; exact BK218.out⟩
         have n3_ : Aside0 (((w77.setCell ⟨gb232, 0, none⟩ (.int .i64 t230)).setCell ⟨gb232, 1, none⟩ (.int .i64 t231)).heap[gb221]? = some (.cells #[.int .i64 t219, .int .i64 t220] 24 (0, 0))) := ⟨by refine bk ?_; refine blk_far ?_ NB221_232.out _; refine bk ?_; refine blk_far ?_ NB221_232.out _; refine bk ?_; exact BK221.out⟩
         have n4_ : Aside0 (((w77.setCell ⟨gb232, 0, none⟩ (.int .i64 t230)).setCell ⟨gb232, 1, none⟩ (.int .i64 t231)).heap[gb232]? = some (.cells #[.int .i64 t230, .int .i64 t231] 24 (0, 0))) := ⟨by refine bk ?_; refine blk_put (cs := #[.int .i64 t230, .int .i64 0]) ?_ 1 _ rfl; refine bk ?_; refine blk_put (cs := #[.int .i64 0, .int .i64 0]) ?_ 0 _ rfl; refine bk ?_; exact BK232.out⟩
         have n5_ : Aside0 (Below w.heap.size w ((w77.setCell ⟨gb232, 0, none⟩ (.int .i64 t230)).setCell ⟨gb232, 1, none⟩ (.int .i64 t231))) := ⟨by repeat first | exact HB.out | refine bset ?_ ‹_› | apply below_alloc | apply pw_below_drewN | apply below_drew1⟩
         (try clear BK191); (try clear BK192); (try clear BK218); (try clear BK221); (try clear BK232); (try clear HB)
         generalize ((w77.setCell ⟨gb232, 0, none⟩ (.int .i64 t230)).setCell ⟨gb232, 1, none⟩ (.int .i64 t231)) = w87 at n0_ n1_ n2_ n3_ n4_ n5_ ⊢
         have BK191 := n0_
         have BK192 := n1_
         have BK218 := n2_
         have BK221 := n3_
         have BK232 := n4_
         have HB := n5_
         clear n0_ n1_ n2_ n3_ n4_ n5_
         replace BK191 := kd BK191
         replace BK192 := kd BK192
         replace BK218 := kd BK218
         replace BK221 := kd BK221
         replace BK232 := kd BK232
         replace HB := Aside0.mk (below_drew1 HB.out)
         refine start_ (n := 32) (S := fun w' => w'.cell? ⟨gb232, 0, none⟩ = some (.int .i64 t230) ∧ w'.cell? ⟨gb232, 1, none⟩ = some (.int .i64 t231) ∧ w'.cell? ⟨gb192, 0, none⟩ = some (.int .i64 a1_0) ∧ w'.cell? ⟨gb192, 1, none⟩ = some (.int .i64 a1_1)) (ds := []) (bA 32 0) (by kernel_rfl) rfl rfl ⟨(blk_cell BK232.out 0).trans rfl, (blk_cell BK232.out 1).trans rfl, (blk_cell BK192.out 0).trans rfl, (blk_cell BK192.out 1).trans rfl⟩ (fun hHeld => ?_); refine with_tabW serinettelaw01_NumberRounds.tab8 serinettelaw01_NumberRounds.bits8 (fun HT_ HW_ => ?_)
         generalize w87.drew = w88 at BK191 BK192 BK218 BK221 BK232 HB hHeld ⊢
         refine take_ (i := 0) (N := some 64) (v := ?_) (a' := ?_) (bA 32 1) rfl rfl (take_ofW HT_.out HW_.out (by kernel_rfl)) (fun _ _ _ h => h) (Or.inl ⟨by rfl, ?_⟩) hHeld ?_ ?_
         rotate_left
         ·
          rintro w' ⟨s0, s1, s2, s3⟩
          go_simp; with_reducible rfl
         rotate_left
         ·
          simp only [ap]
          rfl
         refine take_ (i := 1) (N := some 65) (v := ?_) (a' := ?_) (bA 32 3) rfl rfl (take_ofW HT_.out HW_.out (by kernel_rfl)) (fun _ _ _ h => h) (Or.inl ⟨by rfl, ?_⟩) hHeld ?_ ?_
         rotate_left
         ·
          rintro w' ⟨s0, s1, s2, s3⟩
          go_simp; with_reducible rfl
         rotate_left
         ·
          simp only [ap]
          rfl
         refine one_ (i := 2) (N := some 66) (bA 32 7) rfl rfl (one_of HT_.out (by kernel_rfl)) (by decide) (fun K hK => ?_)
         refine Kd.R_lit_step k24 _ 24 ?hg (N := 66) ?hd (xs := ([(⟨t230, t231⟩ : S24), (⟨a1_0, a1_1⟩ : S24)] : List (S24))) (inner := [.int .i64 t230, .int .i64 t231, .int .i64 a1_0, .int .i64 a1_1]) (ok := fun _ => True) (okp := fun _ => True) ?hr ?hp (fun _ hk => hk) trivial (Below.refl _ _) (Nat.le_refl _) (by simp) ?_; (case hd => rfl); (case hg => rfl); (case hr => first | (go_simp; done) | (go_simp; rfl)); (case hp => exact (Reps.c2 (show Kd.M k24 _ _ _ (⟨t230, t231⟩ : S24) [.int .i64 t230, .int .i64 t231] from (k24_mkM _ _ _ (⟨t230, t231⟩ : S24) )) (Reps.c2 (show Kd.M k24 _ _ _ (⟨a1_0, a1_1⟩ : S24) [.int .i64 a1_0, .int .i64 a1_1] from (k24_mkM _ _ _ (⟨a1_0, a1_1⟩ : S24) )) (Reps.none _ _))))
         intro v234 w89 ho90 hb hg_ hnew_
         clear hg_ hnew_
         (first | rw [← Ny233.out] at ho90 | (simp only [Int.reduceToNat] at ho90; rw [← Ny233.out] at ho90))
         have HO235 := Aside0.mk (Kd.R_lower (Kd.R_newB (Kd.R_newB (Kd.R_newB (Kd.R_newB (Kd.R_newB ho90 (g := gb191) (o := .cells #[.int .i64 a0_0, .int .i64 a0_1] 24 (0, 0)) (bk BK191.out)) (g := gb192) (o := .cells #[.int .i64 a1_0, .int .i64 a1_1] 24 (0, 0)) (bk BK192.out)) (g := gb218) (o := .cells #[.int .i64 t216, .int .i64 t217] 24 (0, 0)) (bk BK218.out)) (g := gb221) (o := .cells #[.int .i64 t219, .int .i64 t220] 24 (0, 0)) (bk BK221.out)) (g := gb232) (o := .cells #[.int .i64 t230, .int .i64 t231] 24 (0, 0)) (bk BK232.out)) (below_size (by repeat first | (with_reducible exact HB.out) | refine bl1 ?_ | (with_reducible refine bset ?_ ‹_›) | exact HB.out)))
         replace BK191 := kb BK191 hb
         replace BK192 := kb BK192 hb
         replace BK218 := kb BK218 hb
         replace BK221 := kb BK221 hb
         replace BK232 := kb BK232 hb
         replace HB := hs' HB (by repeat first | (with_reducible exact HB.out) | refine bl1 ?_ | (with_reducible refine bset ?_ ‹_›) | exact HB.out) hb
         clear hb ho90
         obtain ⟨Ao91, co91, eo91⟩ := Kd.R_slice HO235.out
         (first | subst eo91 | (injection eo91 with f1_ f2_ f3_; have f4_ := f1_.symm; have f5_ := f3_.symm; clear f1_ f2_ f3_; subst f4_; subst f5_))
         refine hK.out _ _ ⟨(blk_cell BK232.out 0).trans rfl, (blk_cell BK232.out 1).trans rfl, (blk_cell BK192.out 0).trans rfl, (blk_cell BK192.out 1).trans rfl⟩ (fun hHeld => ?_)
         clear hK K
         refine norm_ (a' := ?_) ?_ ?_
         rotate_left
         ·
          show Act.put _ (some 66) _ = _
          simp only [ap]; rfl
         refine one_ (i := 3) (N := some 67) (bA 32 15) rfl rfl (one_of HT_.out (by kernel_rfl)) (by decide) (fun K hK => ?_)
         refine goes_ Try.func14 (by kernel_rfl) rfl #[.slice Ao91 y233.length co91] (by rfl) rfl rfl (by (try simp only [mp]); first | done | rfl | (simp only [ld]; rfl)) ?_
         with_reducible refine (serinettelaw01_numbers.calls kj6 _ _ y233 true _ ?side1 ?side2 A83.out).mono ?_
         (case side1 => repeat (first | exact (Kd.R_reads' HO235.out).2.2 | (with_reducible refine Kd.C_alloc ?_ _) | (with_reducible refine Kd.C_drewN ?_ _) | (with_reducible refine Kd.C_drew ?_)))
         (case side2 => exact (Kd.R_reads' HO235.out).2.1)
         rintro e w92 ⟨rfl, hb⟩
         refine ⟨_, rfl, ?_⟩
         replace HO235 := Aside0.mk (Kd.R_below (by (with_reducible repeat (first | apply Kd.R_alloc | apply Kd.R_drewN | apply Kd.R_drew)); exact HO235.out) hb)
         replace BK191 := kb BK191 hb
         replace BK192 := kb BK192 hb
         replace BK218 := kb BK218 hb
         replace BK221 := kb BK221 hb
         replace BK232 := kb BK232 hb
         replace HB := hs' HB (by repeat first | (with_reducible exact HB.out) | refine bl1 ?_ | (with_reducible refine bset ?_ ‹_›) | exact HB.out) hb
         (try clear hb); (try clear hb2); (try clear hk); (try clear hi)
         refine hK.out _ _ ⟨(blk_cell BK232.out 0).trans rfl, (blk_cell BK232.out 1).trans rfl, (blk_cell BK192.out 0).trans rfl, (blk_cell BK192.out 1).trans rfl⟩ (fun hHeld => ?_)
         clear hK K
         refine norm_ (a' := ?_) ?_ ?_
         rotate_left
         ·
          show Act.put _ (some 67) _ = _
          simp only [ap]; rfl
         refine pure_ (i := 4) (N := some 68) (v := ?_) (a' := ?_) (bA 32 31) rfl rfl (any_of HT_.out (by kernel_rfl)) (fun _ _ _ h => h) (Or.inl ⟨by rfl, ?_⟩) ?_ ?_
         rotate_left
         ·
          intro w'
          go_simp; with_reducible rfl
         rotate_left
         ·
          simp only [ap]
          rfl
         refine pure_ (i := 5) (N := some 69) (v := ?_) (a' := ?_) (bA 32 63) rfl rfl (any_of HT_.out (by kernel_rfl)) (fun _ _ _ h => h) (Or.inl ⟨by rfl, ?_⟩) ?_ ?_
         rotate_left
         ·
          intro w'
          go_simp; with_reducible rfl
         rotate_left
         ·
          simp only [ap]
          rfl
         refine take_ (i := 6) (N := some 70) (v := ?_) (a' := ?_) (bA 32 127) rfl rfl (take_ofW HT_.out HW_.out (by kernel_rfl)) (fun _ _ _ h => h) (Or.inl ⟨by rfl, ?_⟩) hHeld ?_ ?_
         rotate_left
         ·
          rintro w' ⟨s0, s1, s2, s3⟩
          go_simp; with_reducible rfl
         rotate_left
         ·
          simp only [ap]
          rfl
         refine pure_ (i := 7) (N := some 71) (v := ?_) (a' := ?_) (bA 32 255) rfl rfl (any_of HT_.out (by kernel_rfl)) (fun _ _ _ h => h) (Or.inl ⟨by rfl, ?_⟩) ?_ ?_
         rotate_left
         ·
          intro w'
          go_simp; with_reducible rfl
         rotate_left
         ·
          simp only [ap]
          rfl
         refine pure_ (i := 8) (N := some 72) (v := ?_) (a' := ?_) (bA 32 511) rfl rfl (any_of HT_.out (by kernel_rfl)) (fun _ _ _ h => h) (Or.inl ⟨by rfl, ?_⟩) ?_ ?_
         rotate_left
         ·
          intro w'
          go_simp; with_reducible rfl
         rotate_left
         ·
          simp only [ap]
          rfl
         refine pure_ (i := 9) (N := some 73) (v := ?_) (a' := ?_) (bA 32 1023) rfl rfl (any_of HT_.out (by kernel_rfl)) (fun _ _ _ h => h) (Or.inl ⟨by rfl, ?_⟩) ?_ ?_
         rotate_left
         ·
          intro w'
          go_simp; with_reducible rfl
         rotate_left
         ·
          simp only [ap]
          rfl
         refine take_ (i := 10) (N := some 74) (v := ?_) (a' := ?_) (bA 32 2047) rfl rfl (take_ofW HT_.out HW_.out (by kernel_rfl)) (fun _ _ _ h => h) (Or.inl ⟨by rfl, ?_⟩) hHeld ?_ ?_
         rotate_left
         ·
          rintro w' ⟨s0, s1, s2, s3⟩
          go_simp; with_reducible rfl
         rotate_left
         ·
          simp only [ap]
          rfl
         refine pure_ (i := 11) (N := some 75) (v := ?_) (a' := ?_) (bA 32 4095) rfl rfl (any_of HT_.out (by kernel_rfl)) (fun _ _ _ h => h) (Or.inl ⟨by rfl, ?_⟩) ?_ ?_
         rotate_left
         ·
          intro w'
          go_simp; with_reducible rfl
         rotate_left
         ·
          simp only [ap]
          rfl
         refine pure_ (i := 12) (N := some 76) (v := ?_) (a' := ?_) (bA 32 8191) rfl rfl (any_of HT_.out (by kernel_rfl)) (fun _ _ _ h => h) (Or.inl ⟨by rfl, ?_⟩) ?_ ?_
         rotate_left
         ·
          intro w'
          go_simp; with_reducible rfl
         rotate_left
         ·
          simp only [ap]
          rfl
         refine pure_ (i := 13) (N := some 77) (v := ?_) (a' := ?_) (bA 32 16383) rfl rfl (any_of HT_.out (by kernel_rfl)) (fun _ _ _ h => h) (Or.inl ⟨by rfl, ?_⟩) ?_ ?_
         rotate_left
         ·
          intro w'
          go_simp; with_reducible rfl
         rotate_left
         ·
          simp only [ap]
          rfl
         refine pure_ (i := 14) (N := some 78) (v := undef) (a' := ?_) (bA 32 32767) rfl rfl (any_of HT_.out (by kernel_rfl)) (fun _ _ _ h => h) (Or.inr ⟨by rfl, rfl⟩) ?_ ?_
         rotate_left
         ·
          simp only [ap]
          rfl
         refine pure_ (i := 15) (N := some 79) (v := undef) (a' := ?_) (bA 32 65535) rfl rfl (any_of HT_.out (by kernel_rfl)) (fun _ _ _ h => h) (Or.inr ⟨by rfl, rfl⟩) ?_ ?_
         rotate_left
         ·
          simp only [ap]
          rfl
         refine pure_ (i := 16) (N := some 80) (v := undef) (a' := ?_) (bA 32 131071) rfl rfl (any_of HT_.out (by kernel_rfl)) (fun _ _ _ h => h) (Or.inr ⟨by rfl, rfl⟩) ?_ ?_
         rotate_left
         ·
          simp only [ap]
          rfl
         refine pure_ (i := 17) (N := some 81) (v := undef) (a' := ?_) (bA 32 262143) rfl rfl (any_of HT_.out (by kernel_rfl)) (fun _ _ _ h => h) (Or.inr ⟨by rfl, rfl⟩) ?_ ?_
         rotate_left
         ·
          simp only [ap]
          rfl
         refine pure_ (i := 18) (N := some 82) (v := undef) (a' := ?_) (bA 32 524287) rfl rfl (any_of HT_.out (by kernel_rfl)) (fun _ _ _ h => h) (Or.inr ⟨by rfl, rfl⟩) ?_ ?_
         rotate_left
         ·
          simp only [ap]
          rfl
         refine pure_ (i := 19) (N := some 83) (v := undef) (a' := ?_) (bA 32 1048575) rfl rfl (any_of HT_.out (by kernel_rfl)) (fun _ _ _ h => h) (Or.inr ⟨by rfl, rfl⟩) ?_ ?_
         rotate_left
         ·
          simp only [ap]
          rfl
         refine pure_ (i := 20) (N := some 84) (v := undef) (a' := ?_) (bA 32 2097151) rfl rfl (any_of HT_.out (by kernel_rfl)) (fun _ _ _ h => h) (Or.inr ⟨by rfl, rfl⟩) ?_ ?_
         rotate_left
         ·
          simp only [ap]
          rfl
         refine pure_ (i := 21) (N := some 85) (v := undef) (a' := ?_) (bA 32 4194303) rfl rfl (any_of HT_.out (by kernel_rfl)) (fun _ _ _ h => h) (Or.inr ⟨by rfl, rfl⟩) ?_ ?_
         rotate_left
         ·
          simp only [ap]
          rfl
         refine pure_ (i := 22) (N := some 86) (v := ?_) (a' := ?_) (bA 32 8388607) rfl rfl (any_of HT_.out (by kernel_rfl)) (fun _ _ _ h => h) (Or.inl ⟨by rfl, ?_⟩) ?_ ?_
         rotate_left
         ·
          intro w'
          go_simp; with_reducible rfl
         rotate_left
         ·
          simp only [ap]
          rfl
         refine pure_ (i := 23) (N := some 87) (v := ?_) (a' := ?_) (bA 32 16777215) rfl rfl (any_of HT_.out (by kernel_rfl)) (fun _ _ _ h => h) (Or.inl ⟨by rfl, ?_⟩) ?_ ?_
         rotate_left
         ·
          intro w'
          go_simp; with_reducible rfl
         rotate_left
         ·
          simp only [ap]
          rfl
         refine pure_ (i := 24) (N := some 88) (v := undef) (a' := ?_) (bA 32 33554431) rfl rfl (any_of HT_.out (by kernel_rfl)) (fun _ _ _ h => h) (Or.inr ⟨by rfl, rfl⟩) ?_ ?_
         rotate_left
         ·
          simp only [ap]
          rfl
         refine pure_ (i := 25) (N := some 89) (v := undef) (a' := ?_) (bA 32 67108863) rfl rfl (any_of HT_.out (by kernel_rfl)) (fun _ _ _ h => h) (Or.inr ⟨by rfl, rfl⟩) ?_ ?_
         rotate_left
         ·
          simp only [ap]
          rfl
         refine pure_ (i := 26) (N := some 90) (v := undef) (a' := ?_) (bA 32 134217727) rfl rfl (any_of HT_.out (by kernel_rfl)) (fun _ _ _ h => h) (Or.inr ⟨by rfl, rfl⟩) ?_ ?_
         rotate_left
         ·
          simp only [ap]
          rfl
         refine pure_ (i := 27) (N := some 91) (v := undef) (a' := ?_) (bA 32 268435455) rfl rfl (any_of HT_.out (by kernel_rfl)) (fun _ _ _ h => h) (Or.inr ⟨by rfl, rfl⟩) ?_ ?_
         rotate_left
         ·
          simp only [ap]
          rfl
         refine pure_ (i := 28) (N := some 92) (v := undef) (a' := ?_) (bA 32 536870911) rfl rfl (any_of HT_.out (by kernel_rfl)) (fun _ _ _ h => h) (Or.inr ⟨by rfl, rfl⟩) ?_ ?_
         rotate_left
         ·
          simp only [ap]
          rfl
         refine pure_ (i := 29) (N := some 93) (v := undef) (a' := ?_) (bA 32 1073741823) rfl rfl (any_of HT_.out (by kernel_rfl)) (fun _ _ _ h => h) (Or.inr ⟨by rfl, rfl⟩) ?_ ?_
         rotate_left
         ·
          simp only [ap]
          rfl
         refine pure_ (i := 30) (N := some 94) (v := ?_) (a' := ?_) (bA 32 2147483647) rfl rfl (any_of HT_.out (by kernel_rfl)) (fun _ _ _ h => h) (Or.inl ⟨by rfl, ?_⟩) ?_ ?_
         rotate_left
         ·
          intro w'
          go_simp; with_reducible rfl
         rotate_left
         ·
          simp only [ap]
          rfl
         refine pure_ (i := 31) (N := some 95) (v := ?_) (a' := ?_) (bA 32 4294967295) rfl rfl (any_of HT_.out (by kernel_rfl)) (fun _ _ _ h => h) (Or.inl ⟨by rfl, ?_⟩) ?_ ?_
         rotate_left
         ·
          intro w'
          go_simp; with_reducible rfl
         rotate_left
         ·
          simp only [ap]
          rfl
         refine done_ (done_of HT_.out (by kernel_rfl)) ?_
         try go_wp2
         go_meet
         case rel => exact ⟨_, (true), (by first | rfl | (simp; done) | (simp [*]; done)), H', ⟨by have := HJ6.out; first | omega | exact Nat.le_refl _⟩, ⟨by refine bk ?_; exact BK191.out⟩, ⟨by refine bk ?_; exact BK192.out⟩, ⟨by refine bk ?_; exact BK218.out⟩, ⟨by refine bk ?_; exact BK221.out⟩, ⟨by refine bk ?_; exact BK232.out⟩, ⟨by repeat first | exact HB.out | refine bset ?_ ‹_› | apply below_alloc | apply pw_below_drewN | apply below_drew1⟩⟩
        ·
         rw [if_neg c86] at H
         have c86b0 : decide (0 < a1_0) = false := decide_eq_false c86
         clear c86
         by_cases c93 : t230 > 0
         ·
          rw [if_pos c93] at H
          have c93b0 : decide (0 < t230) = true := decide_eq_true c93
          clear c93
          by_cases c94 : a1_0 < 0
          ·
           rw [if_pos c94] at H
           have c94b0 : decide (a1_0 < 0) = true := decide_eq_true c94
           clear c94
           have H' := Aside0.mk H
           clear H
           try go_wp2
           have n0_ : Aside0 (((w77.setCell ⟨gb232, 0, none⟩ (.int .i64 t230)).setCell ⟨gb232, 1, none⟩ (.int .i64 t231)).heap[gb191]? = some (.cells #[.int .i64 a0_0, .int .i64 a0_1] 24 (0, 0))) := ⟨by refine bk ?_; refine blk_far ?_ NB191_232.out _; refine bk ?_; refine blk_far ?_ NB191_232.out _; refine bk ?_; exact BK191.out⟩
           have n1_ : Aside0 (((w77.setCell ⟨gb232, 0, none⟩ (.int .i64 t230)).setCell ⟨gb232, 1, none⟩ (.int .i64 t231)).heap[gb192]? = some (.cells #[.int .i64 a1_0, .int .i64 a1_1] 24 (0, 0))) := ⟨by refine bk ?_; refine blk_far ?_ NB192_232.out _; refine bk ?_; refine blk_far ?_ NB192_232.out _; refine bk ?_; exact BK192.out⟩
           have n2_ : Aside0 (((w77.setCell ⟨gb232, 0, none⟩ (.int .i64 t230)).setCell ⟨gb232, 1, none⟩ (.int .i64 t231)).heap[gb218]? = some (.cells #[.int .i64 t216, .int .i64 t217] 24 (0, 0))) := ⟨by refine bk ?_; refine blk_far ?_ NB218_232.out _; refine bk ?_; refine blk_far ?_ NB218_232.out _; refine bk ?_; exact BK218.out⟩
           have n3_ : Aside0 (((w77.setCell ⟨gb232, 0, none⟩ (.int .i64 t230)).setCell ⟨gb232, 1, none⟩ (.int .i64 t231)).heap[gb221]? = some (.cells #[.int .i64 t219, .int .i64 t220] 24 (0, 0))) := ⟨by refine bk ?_; refine blk_far ?_ NB221_232.out _; refine bk ?_; refine blk_far ?_ NB221_232.out _; refine bk ?_; exact BK221.out⟩
           have n4_ : Aside0 (((w77.setCell ⟨gb232, 0, none⟩ (.int .i64 t230)).setCell ⟨gb232, 1, none⟩ (.int .i64 t231)).heap[gb232]? = some (.cells #[.int .i64 t230, .int .i64 t231] 24 (0, 0))) := ⟨by refine bk ?_; refine blk_put (cs := #[.int .i64 t230, .int .i64 0]) ?_ 1 _ rfl; refine bk ?_; refine blk_put (cs := #[.int .i64 0, .int .i64 0]) ?_ 0 _ rfl; refine bk ?_; exact BK232.out⟩
           have n5_ : Aside0 (Below w.heap.size w ((w77.setCell ⟨gb232, 0, none⟩ (.int .i64 t230)).setCell ⟨gb232, 1, none⟩ (.int .i64 t231))) := ⟨by repeat first | exact HB.out | refine bset ?_ ‹_› | apply below_alloc | apply pw_below_drewN | apply below_drew1⟩
           (try clear BK191); (try clear BK192); (try clear BK218); (try clear BK221); (try clear BK232); (try clear HB)
           generalize ((w77.setCell ⟨gb232, 0, none⟩ (.int .i64 t230)).setCell ⟨gb232, 1, none⟩ (.int .i64 t231)) = w95 at n0_ n1_ n2_ n3_ n4_ n5_ ⊢
           have BK191 := n0_
           have BK192 := n1_
           have BK218 := n2_
           have BK221 := n3_
           have BK232 := n4_
           have HB := n5_
           clear n0_ n1_ n2_ n3_ n4_ n5_
           replace BK191 := kd BK191
           replace BK192 := kd BK192
           replace BK218 := kd BK218
           replace BK221 := kd BK221
           replace BK232 := kd BK232
           replace HB := Aside0.mk (below_drew1 HB.out)
           refine start_ (n := 32) (S := fun w' => w'.cell? ⟨gb232, 0, none⟩ = some (.int .i64 t230) ∧ w'.cell? ⟨gb232, 1, none⟩ = some (.int .i64 t231) ∧ w'.cell? ⟨gb192, 0, none⟩ = some (.int .i64 a1_0) ∧ w'.cell? ⟨gb192, 1, none⟩ = some (.int .i64 a1_1)) (ds := []) (bA 32 0) (by kernel_rfl) rfl rfl ⟨(blk_cell BK232.out 0).trans rfl, (blk_cell BK232.out 1).trans rfl, (blk_cell BK192.out 0).trans rfl, (blk_cell BK192.out 1).trans rfl⟩ (fun hHeld => ?_); refine with_tabW serinettelaw01_NumberRounds.tab8 serinettelaw01_NumberRounds.bits8 (fun HT_ HW_ => ?_)
           generalize w95.drew = w96 at BK191 BK192 BK218 BK221 BK232 HB hHeld ⊢
           refine take_ (i := 0) (N := some 64) (v := ?_) (a' := ?_) (bA 32 1) rfl rfl (take_ofW HT_.out HW_.out (by kernel_rfl)) (fun _ _ _ h => h) (Or.inl ⟨by rfl, ?_⟩) hHeld ?_ ?_
           rotate_left
           ·
            rintro w' ⟨s0, s1, s2, s3⟩
            go_simp; with_reducible rfl
           rotate_left
           ·
            simp only [ap]
            rfl
           refine take_ (i := 1) (N := some 65) (v := ?_) (a' := ?_) (bA 32 3) rfl rfl (take_ofW HT_.out HW_.out (by kernel_rfl)) (fun _ _ _ h => h) (Or.inl ⟨by rfl, ?_⟩) hHeld ?_ ?_
           rotate_left
           ·
            rintro w' ⟨s0, s1, s2, s3⟩
            go_simp; with_reducible rfl
           rotate_left
           ·
            simp only [ap]
            rfl
           refine one_ (i := 2) (N := some 66) (bA 32 7) rfl rfl (one_of HT_.out (by kernel_rfl)) (by decide) (fun K hK => ?_)
           refine Kd.R_lit_step k24 _ 24 ?hg (N := 66) ?hd (xs := ([(⟨t230, t231⟩ : S24), (⟨a1_0, a1_1⟩ : S24)] : List (S24))) (inner := [.int .i64 t230, .int .i64 t231, .int .i64 a1_0, .int .i64 a1_1]) (ok := fun _ => True) (okp := fun _ => True) ?hr ?hp (fun _ hk => hk) trivial (Below.refl _ _) (Nat.le_refl _) (by simp) ?_; (case hd => rfl); (case hg => rfl); (case hr => first | (go_simp; done) | (go_simp; rfl)); (case hp => exact (Reps.c2 (show Kd.M k24 _ _ _ (⟨t230, t231⟩ : S24) [.int .i64 t230, .int .i64 t231] from (k24_mkM _ _ _ (⟨t230, t231⟩ : S24) )) (Reps.c2 (show Kd.M k24 _ _ _ (⟨a1_0, a1_1⟩ : S24) [.int .i64 a1_0, .int .i64 a1_1] from (k24_mkM _ _ _ (⟨a1_0, a1_1⟩ : S24) )) (Reps.none _ _))))
           intro v234 w97 ho98 hb hg_ hnew_
           clear hg_ hnew_
           (first | rw [← Ny233.out] at ho98 | (simp only [Int.reduceToNat] at ho98; rw [← Ny233.out] at ho98))
           have HO235 := Aside0.mk (Kd.R_lower (Kd.R_newB (Kd.R_newB (Kd.R_newB (Kd.R_newB (Kd.R_newB ho98 (g := gb191) (o := .cells #[.int .i64 a0_0, .int .i64 a0_1] 24 (0, 0)) (bk BK191.out)) (g := gb192) (o := .cells #[.int .i64 a1_0, .int .i64 a1_1] 24 (0, 0)) (bk BK192.out)) (g := gb218) (o := .cells #[.int .i64 t216, .int .i64 t217] 24 (0, 0)) (bk BK218.out)) (g := gb221) (o := .cells #[.int .i64 t219, .int .i64 t220] 24 (0, 0)) (bk BK221.out)) (g := gb232) (o := .cells #[.int .i64 t230, .int .i64 t231] 24 (0, 0)) (bk BK232.out)) (below_size (by repeat first | (with_reducible exact HB.out) | refine bl1 ?_ | (with_reducible refine bset ?_ ‹_›) | exact HB.out)))
           replace BK191 := kb BK191 hb
           replace BK192 := kb BK192 hb
           replace BK218 := kb BK218 hb
           replace BK221 := kb BK221 hb
           replace BK232 := kb BK232 hb
           replace HB := hs' HB (by repeat first | (with_reducible exact HB.out) | refine bl1 ?_ | (with_reducible refine bset ?_ ‹_›) | exact HB.out) hb
           clear hb ho98
           obtain ⟨Ao99, co99, eo99⟩ := Kd.R_slice HO235.out
           (first | subst eo99 | (injection eo99 with f1_ f2_ f3_; have f4_ := f1_.symm; have f5_ := f3_.symm; clear f1_ f2_ f3_; subst f4_; subst f5_))
           refine hK.out _ _ ⟨(blk_cell BK232.out 0).trans rfl, (blk_cell BK232.out 1).trans rfl, (blk_cell BK192.out 0).trans rfl, (blk_cell BK192.out 1).trans rfl⟩ (fun hHeld => ?_)
           clear hK K
           refine norm_ (a' := ?_) ?_ ?_
           rotate_left
           ·
            show Act.put _ (some 66) _ = _
            simp only [ap]; rfl
           refine one_ (i := 3) (N := some 67) (bA 32 15) rfl rfl (one_of HT_.out (by kernel_rfl)) (by decide) (fun K hK => ?_)
           refine goes_ Try.func14 (by kernel_rfl) rfl #[.slice Ao99 y233.length co99] (by rfl) rfl rfl (by (try simp only [mp]); first | done | rfl | (simp only [ld]; rfl)) ?_
           with_reducible refine (serinettelaw01_numbers.calls kj6 _ _ y233 true _ ?side1 ?side2 A83.out).mono ?_
           (case side1 => repeat (first | exact (Kd.R_reads' HO235.out).2.2 | (with_reducible refine Kd.C_alloc ?_ _) | (with_reducible refine Kd.C_drewN ?_ _) | (with_reducible refine Kd.C_drew ?_)))
           (case side2 => exact (Kd.R_reads' HO235.out).2.1)
           rintro e w100 ⟨rfl, hb⟩
           refine ⟨_, rfl, ?_⟩
           replace HO235 := Aside0.mk (Kd.R_below (by (with_reducible repeat (first | apply Kd.R_alloc | apply Kd.R_drewN | apply Kd.R_drew)); exact HO235.out) hb)
           replace BK191 := kb BK191 hb
           replace BK192 := kb BK192 hb
           replace BK218 := kb BK218 hb
           replace BK221 := kb BK221 hb
           replace BK232 := kb BK232 hb
           replace HB := hs' HB (by repeat first | (with_reducible exact HB.out) | refine bl1 ?_ | (with_reducible refine bset ?_ ‹_›) | exact HB.out) hb
           (try clear hb); (try clear hb2); (try clear hk); (try clear hi)
           refine hK.out _ _ ⟨(blk_cell BK232.out 0).trans rfl, (blk_cell BK232.out 1).trans rfl, (blk_cell BK192.out 0).trans rfl, (blk_cell BK192.out 1).trans rfl⟩ (fun hHeld => ?_)
           clear hK K
           refine norm_ (a' := ?_) ?_ ?_
           rotate_left
           ·
            show Act.put _ (some 67) _ = _
            simp only [ap]; rfl
           refine pure_ (i := 4) (N := some 68) (v := ?_) (a' := ?_) (bA 32 31) rfl rfl (any_of HT_.out (by kernel_rfl)) (fun _ _ _ h => h) (Or.inl ⟨by rfl, ?_⟩) ?_ ?_
           rotate_left
           ·
            intro w'
            go_simp; with_reducible rfl
           rotate_left
           ·
            simp only [ap]
            rfl
           refine pure_ (i := 5) (N := some 69) (v := ?_) (a' := ?_) (bA 32 63) rfl rfl (any_of HT_.out (by kernel_rfl)) (fun _ _ _ h => h) (Or.inl ⟨by rfl, ?_⟩) ?_ ?_
           rotate_left
           ·
            intro w'
            go_simp; with_reducible rfl
           rotate_left
           ·
            simp only [ap]
            rfl
           refine take_ (i := 6) (N := some 70) (v := ?_) (a' := ?_) (bA 32 127) rfl rfl (take_ofW HT_.out HW_.out (by kernel_rfl)) (fun _ _ _ h => h) (Or.inl ⟨by rfl, ?_⟩) hHeld ?_ ?_
           rotate_left
           ·
            rintro w' ⟨s0, s1, s2, s3⟩
            go_simp; with_reducible rfl
           rotate_left
           ·
            simp only [ap]
            rfl
           refine pure_ (i := 7) (N := some 71) (v := ?_) (a' := ?_) (bA 32 255) rfl rfl (any_of HT_.out (by kernel_rfl)) (fun _ _ _ h => h) (Or.inl ⟨by rfl, ?_⟩) ?_ ?_
           rotate_left
           ·
            intro w'
            go_simp; with_reducible rfl
           rotate_left
           ·
            simp only [ap]
            rfl
           refine pure_ (i := 8) (N := some 72) (v := ?_) (a' := ?_) (bA 32 511) rfl rfl (any_of HT_.out (by kernel_rfl)) (fun _ _ _ h => h) (Or.inl ⟨by rfl, ?_⟩) ?_ ?_
           rotate_left
           ·
            intro w'
            go_simp; with_reducible rfl
           rotate_left
           ·
            simp only [ap]
            rfl
           refine pure_ (i := 9) (N := some 73) (v := ?_) (a' := ?_) (bA 32 1023) rfl rfl (any_of HT_.out (by kernel_rfl)) (fun _ _ _ h => h) (Or.inl ⟨by rfl, ?_⟩) ?_ ?_
           rotate_left
           ·
            intro w'
            go_simp; with_reducible rfl
           rotate_left
           ·
            simp only [ap]
            rfl
           refine take_ (i := 10) (N := some 74) (v := ?_) (a' := ?_) (bA 32 2047) rfl rfl (take_ofW HT_.out HW_.out (by kernel_rfl)) (fun _ _ _ h => h) (Or.inl ⟨by rfl, ?_⟩) hHeld ?_ ?_
           rotate_left
           ·
            rintro w' ⟨s0, s1, s2, s3⟩
            go_simp; with_reducible rfl
           rotate_left
           ·
            simp only [ap]
            rfl
           refine pure_ (i := 11) (N := some 75) (v := ?_) (a' := ?_) (bA 32 4095) rfl rfl (any_of HT_.out (by kernel_rfl)) (fun _ _ _ h => h) (Or.inl ⟨by rfl, ?_⟩) ?_ ?_
           rotate_left
           ·
            intro w'
            go_simp; with_reducible rfl
           rotate_left
           ·
            simp only [ap]
            rfl
           refine pure_ (i := 12) (N := some 76) (v := ?_) (a' := ?_) (bA 32 8191) rfl rfl (any_of HT_.out (by kernel_rfl)) (fun _ _ _ h => h) (Or.inl ⟨by rfl, ?_⟩) ?_ ?_
           rotate_left
           ·
            intro w'
            go_simp; with_reducible rfl
           rotate_left
           ·
            simp only [ap]
            rfl
           refine pure_ (i := 13) (N := some 77) (v := ?_) (a' := ?_) (bA 32 16383) rfl rfl (any_of HT_.out (by kernel_rfl)) (fun _ _ _ h => h) (Or.inl ⟨by rfl, ?_⟩) ?_ ?_
           rotate_left
           ·
            intro w'
            go_simp; with_reducible rfl
           rotate_left
           ·
            simp only [ap]
            rfl
           refine pure_ (i := 14) (N := some 78) (v := ?_) (a' := ?_) (bA 32 32767) rfl rfl (any_of HT_.out (by kernel_rfl)) (fun _ _ _ h => h) (Or.inl ⟨by rfl, ?_⟩) ?_ ?_
           rotate_left
           ·
            intro w'
            go_simp; with_reducible rfl
           rotate_left
           ·
            simp only [ap]
            rfl
           refine take_ (i := 15) (N := some 79) (v := ?_) (a' := ?_) (bA 32 65535) rfl rfl (take_ofW HT_.out HW_.out (by kernel_rfl)) (fun _ _ _ h => h) (Or.inl ⟨by rfl, ?_⟩) hHeld ?_ ?_
           rotate_left
           ·
            rintro w' ⟨s0, s1, s2, s3⟩
            go_simp; with_reducible rfl
           rotate_left
           ·
            simp only [ap]
            rfl
           refine pure_ (i := 16) (N := some 80) (v := ?_) (a' := ?_) (bA 32 131071) rfl rfl (any_of HT_.out (by kernel_rfl)) (fun _ _ _ h => h) (Or.inl ⟨by rfl, ?_⟩) ?_ ?_
           rotate_left
           ·
            intro w'
            go_simp; with_reducible rfl
           rotate_left
           ·
            simp only [ap]
            rfl
           refine pure_ (i := 17) (N := some 81) (v := ?_) (a' := ?_) (bA 32 262143) rfl rfl (any_of HT_.out (by kernel_rfl)) (fun _ _ _ h => h) (Or.inl ⟨by rfl, ?_⟩) ?_ ?_
           rotate_left
           ·
            intro w'
            go_simp; with_reducible rfl
           rotate_left
           ·
            simp only [ap]
            rfl
           refine pure_ (i := 18) (N := some 82) (v := ?_) (a' := ?_) (bA 32 524287) rfl rfl (any_of HT_.out (by kernel_rfl)) (fun _ _ _ h => h) (Or.inl ⟨by rfl, ?_⟩) ?_ ?_
           rotate_left
           ·
            intro w'
            go_simp; with_reducible rfl
           rotate_left
           ·
            simp only [ap]
            rfl
           refine take_ (i := 19) (N := some 83) (v := ?_) (a' := ?_) (bA 32 1048575) rfl rfl (take_ofW HT_.out HW_.out (by kernel_rfl)) (fun _ _ _ h => h) (Or.inl ⟨by rfl, ?_⟩) hHeld ?_ ?_
           rotate_left
           ·
            rintro w' ⟨s0, s1, s2, s3⟩
            go_simp; with_reducible rfl
           rotate_left
           ·
            simp only [ap]
            rfl
           refine pure_ (i := 20) (N := some 84) (v := ?_) (a' := ?_) (bA 32 2097151) rfl rfl (any_of HT_.out (by kernel_rfl)) (fun _ _ _ h => h) (Or.inl ⟨by rfl, ?_⟩) ?_ ?_
           rotate_left
           ·
            intro w'
            go_simp; with_reducible rfl
           rotate_left
           ·
            simp only [ap]
            rfl
           refine pure_ (i := 21) (N := some 85) (v := ?_) (a' := ?_) (bA 32 4194303) rfl rfl (any_of HT_.out (by kernel_rfl)) (fun _ _ _ h => h) (Or.inl ⟨by rfl, ?_⟩) ?_ ?_
           rotate_left
           ·
            intro w'
            go_simp; with_reducible rfl
           rotate_left
           ·
            simp only [ap]
            rfl
           refine pure_ (i := 22) (N := some 86) (v := ?_) (a' := ?_) (bA 32 8388607) rfl rfl (any_of HT_.out (by kernel_rfl)) (fun _ _ _ h => h) (Or.inl ⟨by rfl, ?_⟩) ?_ ?_
           rotate_left
           ·
            intro w'
            go_simp; with_reducible rfl
           rotate_left
           ·
            simp only [ap]
            rfl
           refine pure_ (i := 23) (N := some 87) (v := ?_) (a' := ?_) (bA 32 16777215) rfl rfl (any_of HT_.out (by kernel_rfl)) (fun _ _ _ h => h) (Or.inl ⟨by rfl, ?_⟩) ?_ ?_
           rotate_left
           ·
            intro w'
            go_simp; with_reducible rfl
           rotate_left
           ·
            simp only [ap]
            rfl
           refine pure_ (i := 24) (N := some 88) (v := undef) (a' := ?_) (bA 32 33554431) rfl rfl (any_of HT_.out (by kernel_rfl)) (fun _ _ _ h => h) (Or.inr ⟨by rfl, rfl⟩) ?_ ?_
           rotate_left
           ·
            simp only [ap]
            rfl
           refine pure_ (i := 25) (N := some 89) (v := undef) (a' := ?_) (bA 32 67108863) rfl rfl (any_of HT_.out (by kernel_rfl)) (fun _ _ _ h => h) (Or.inr ⟨by rfl, rfl⟩) ?_ ?_
           rotate_left
           ·
            simp only [ap]
            rfl
           refine pure_ (i := 26) (N := some 90) (v := undef) (a' := ?_) (bA 32 134217727) rfl rfl (any_of HT_.out (by kernel_rfl)) (fun _ _ _ h => h) (Or.inr ⟨by rfl, rfl⟩) ?_ ?_
           rotate_left
           ·
            simp only [ap]
            rfl
           refine pure_ (i := 27) (N := some 91) (v := undef) (a' := ?_) (bA 32 268435455) rfl rfl (any_of HT_.out (by kernel_rfl)) (fun _ _ _ h => h) (Or.inr ⟨by rfl, rfl⟩) ?_ ?_
           rotate_left
           ·
            simp only [ap]
            rfl
           refine pure_ (i := 28) (N := some 92) (v := undef) (a' := ?_) (bA 32 536870911) rfl rfl (any_of HT_.out (by kernel_rfl)) (fun _ _ _ h => h) (Or.inr ⟨by rfl, rfl⟩) ?_ ?_
           rotate_left
           ·
            simp only [ap]
            rfl
           refine pure_ (i := 29) (N := some 93) (v := undef) (a' := ?_) (bA 32 1073741823) rfl rfl (any_of HT_.out (by kernel_rfl)) (fun _ _ _ h => h) (Or.inr ⟨by rfl, rfl⟩) ?_ ?_
           rotate_left
           ·
            simp only [ap]
            rfl
           refine pure_ (i := 30) (N := some 94) (v := ?_) (a' := ?_) (bA 32 2147483647) rfl rfl (any_of HT_.out (by kernel_rfl)) (fun _ _ _ h => h) (Or.inl ⟨by rfl, ?_⟩) ?_ ?_
           rotate_left
           ·
            intro w'
            go_simp; with_reducible rfl
           rotate_left
           ·
            simp only [ap]
            rfl
           refine pure_ (i := 31) (N := some 95) (v := ?_) (a' := ?_) (bA 32 4294967295) rfl rfl (any_of HT_.out (by kernel_rfl)) (fun _ _ _ h => h) (Or.inl ⟨by rfl, ?_⟩) ?_ ?_
           rotate_left
           ·
            intro w'
            go_simp; with_reducible rfl
           rotate_left
           ·
            simp only [ap]
            rfl
           refine done_ (done_of HT_.out (by kernel_rfl)) ?_
           try go_wp2
           go_meet
           case rel => exact ⟨_, (true), (by first | rfl | (simp; done) | (simp [*]; done)), H', ⟨by have := HJ6.out; first | omega | exact Nat.le_refl _⟩, ⟨by refine bk ?_; exact BK191.out⟩, ⟨by refine bk ?_; exact BK192.out⟩, ⟨by refine bk ?_; exact BK218.out⟩, ⟨by refine bk ?_; exact BK221.out⟩, ⟨by refine bk ?_; exact BK232.out⟩, ⟨by repeat first | exact HB.out | refine bset ?_ ‹_› | apply below_alloc | apply pw_below_drewN | apply below_drew1⟩⟩
          ·
           rw [if_neg c94] at H
           have c94b0 : decide (a1_0 < 0) = false := decide_eq_false c94
           clear c94
           replace H := Option.bind_eq_some_iff.mp H
           obtain ⟨⟨t237, t238⟩, A1010, H⟩ := H
           (try dsimp only at H)
           have A101 := Aside0.mk A1010
           clear A1010
           replace H := Option.bind_eq_some_iff.mp H
           obtain ⟨⟨t239, t240⟩, A1020, H⟩ := H
           (try dsimp only at H)
           have A102 := Aside0.mk A1020
           clear A1020
           replace H := Option.bind_eq_some_iff.mp H
           obtain ⟨t241, A1030, H⟩ := H
           (try dsimp only at H)
           have A103 := Aside0.mk A1030
           clear A1030
           have H' := Aside0.mk H
           clear H
           try go_wp2
           have n0_ : Aside0 (((w77.setCell ⟨gb232, 0, none⟩ (.int .i64 t230)).setCell ⟨gb232, 1, none⟩ (.int .i64 t231)).heap[gb191]? = some (.cells #[.int .i64 a0_0, .int .i64 a0_1] 24 (0, 0))) := ⟨by refine bk ?_; refine blk_far ?_ NB191_232.out _; refine bk ?_; refine blk_far ?_ NB191_232.out _; refine bk ?_; exact BK191.out⟩
           have n1_ : Aside0 (((w77.setCell ⟨gb232, 0, none⟩ (.int .i64 t230)).setCell ⟨gb232, 1, none⟩ (.int .i64 t231)).heap[gb192]? = some (.cells #[.int .i64 a1_0, .int .i64 a1_1] 24 (0, 0))) := ⟨by refine bk ?_; refine blk_far ?_ NB192_232.out _; refine bk ?_; refine blk_far ?_ NB192_232.out _; refine bk ?_; exact BK192.out⟩
           have n2_ : Aside0 (((w77.setCell ⟨gb232, 0, none⟩ (.int .i64 t230)).setCell ⟨gb232, 1, none⟩ (.int .i64 t231)).heap[gb218]? = some (.cells #[.int .i64 t216, .int .i64 t217] 24 (0, 0))) := ⟨by refine bk ?_; refine blk_far ?_ NB218_232.out _; refine bk ?_; refine blk_far ?_ NB218_232.out _; refine bk ?_; exact BK218.out⟩
           have n3_ : Aside0 (((w77.setCell ⟨gb232, 0, none⟩ (.int .i64 t230)).setCell ⟨gb232, 1, none⟩ (.int .i64 t231)).heap[gb221]? = some (.cells #[.int .i64 t219, .int .i64 t220] 24 (0, 0))) := ⟨by refine bk ?_; refine blk_far ?_ NB221_232.out _; refine bk ?_; refine blk_far ?_ NB221_232.out _; refine bk ?_; exact BK221.out⟩
           have n4_ : Aside0 (((w77.setCell ⟨gb232, 0, none⟩ (.int .i64 t230)).setCell ⟨gb232, 1, none⟩ (.int .i64 t231)).heap[gb232]? = some (.cells #[.int .i64 t230, .int .i64 t231] 24 (0, 0))) := ⟨by refine bk ?_; refine blk_put (cs := #[.int .i64 t230, .int .i64 0]) ?_ 1 _ rfl; refine bk ?_; refine blk_put (cs := #[.int .i64 0, .int .i64 0]) ?_ 0 _ rfl; refine bk ?_; exact BK232.out⟩
           have n5_ : Aside0 (Below w.heap.size w ((w77.setCell ⟨gb232, 0, none⟩ (.int .i64 t230)).setCell ⟨gb232, 1, none⟩ (.int .i64 t231))) := ⟨by repeat first | exact HB.out | refine bset ?_ ‹_› | apply below_alloc | apply pw_below_drewN | apply below_drew1⟩
           (try clear BK191); (try clear BK192); (try clear BK218); (try clear BK221); (try clear BK232); (try clear HB)
           generalize ((w77.setCell ⟨gb232, 0, none⟩ (.int .i64 t230)).setCell ⟨gb232, 1, none⟩ (.int .i64 t231)) = w104 at n0_ n1_ n2_ n3_ n4_ n5_ ⊢
           have BK191 := n0_
           have BK192 := n1_
           have BK218 := n2_
           have BK221 := n3_
           have BK232 := n4_
           have HB := n5_
           clear n0_ n1_ n2_ n3_ n4_ n5_
           replace BK191 := kd BK191
           replace BK192 := kd BK192
           replace BK218 := kd BK218
           replace BK221 := kd BK221
           replace BK232 := kd BK232
           replace HB := Aside0.mk (below_drew1 HB.out)
           refine start_ (n := 32) (S := fun w' => w'.cell? ⟨gb232, 0, none⟩ = some (.int .i64 t230) ∧ w'.cell? ⟨gb232, 1, none⟩ = some (.int .i64 t231) ∧ w'.cell? ⟨gb192, 0, none⟩ = some (.int .i64 a1_0) ∧ w'.cell? ⟨gb192, 1, none⟩ = some (.int .i64 a1_1)) (ds := []) (bA 32 0) (by kernel_rfl) rfl rfl ⟨(blk_cell BK232.out 0).trans rfl, (blk_cell BK232.out 1).trans rfl, (blk_cell BK192.out 0).trans rfl, (blk_cell BK192.out 1).trans rfl⟩ (fun hHeld => ?_); refine with_tabW serinettelaw01_NumberRounds.tab8 serinettelaw01_NumberRounds.bits8 (fun HT_ HW_ => ?_)
           generalize w104.drew = w105 at BK191 BK192 BK218 BK221 BK232 HB hHeld ⊢
           refine take_ (i := 0) (N := some 64) (v := ?_) (a' := ?_) (bA 32 1) rfl rfl (take_ofW HT_.out HW_.out (by kernel_rfl)) (fun _ _ _ h => h) (Or.inl ⟨by rfl, ?_⟩) hHeld ?_ ?_
           rotate_left
           ·
            rintro w' ⟨s0, s1, s2, s3⟩
            go_simp; with_reducible rfl
           rotate_left
           ·
            simp only [ap]
            rfl
           refine take_ (i := 1) (N := some 65) (v := ?_) (a' := ?_) (bA 32 3) rfl rfl (take_ofW HT_.out HW_.out (by kernel_rfl)) (fun _ _ _ h => h) (Or.inl ⟨by rfl, ?_⟩) hHeld ?_ ?_
           rotate_left
           ·
            rintro w' ⟨s0, s1, s2, s3⟩
            go_simp; with_reducible rfl
           rotate_left
           ·
            simp only [ap]
            rfl
           refine one_ (i := 2) (N := some 66) (bA 32 7) rfl rfl (one_of HT_.out (by kernel_rfl)) (by decide) (fun K hK => ?_)
           refine Kd.R_lit_step k24 _ 24 ?hg (N := 66) ?hd (xs := ([(⟨t230, t231⟩ : S24), (⟨a1_0, a1_1⟩ : S24)] : List (S24))) (inner := [.int .i64 t230, .int .i64 t231, .int .i64 a1_0, .int .i64 a1_1]) (ok := fun _ => True) (okp := fun _ => True) ?hr ?hp (fun _ hk => hk) trivial (Below.refl _ _) (Nat.le_refl _) (by simp) ?_; (case hd => rfl); (case hg => rfl); (case hr => first | (go_simp; done) | (go_simp; rfl)); (case hp => exact (Reps.c2 (show Kd.M k24 _ _ _ (⟨t230, t231⟩ : S24) [.int .i64 t230, .int .i64 t231] from (k24_mkM _ _ _ (⟨t230, t231⟩ : S24) )) (Reps.c2 (show Kd.M k24 _ _ _ (⟨a1_0, a1_1⟩ : S24) [.int .i64 a1_0, .int .i64 a1_1] from (k24_mkM _ _ _ (⟨a1_0, a1_1⟩ : S24) )) (Reps.none _ _))))
           intro v234 w106 ho107 hb hg_ hnew_
           clear hg_ hnew_
           (first | rw [← Ny233.out] at ho107 | (simp only [Int.reduceToNat] at ho107; rw [← Ny233.out] at ho107))
           have HO235 := Aside0.mk (Kd.R_lower (Kd.R_newB (Kd.R_newB (Kd.R_newB (Kd.R_newB (Kd.R_newB ho107 (g := gb191) (o := .cells #[.int .i64 a0_0, .int .i64 a0_1] 24 (0, 0)) (bk BK191.out)) (g := gb192) (o := .cells #[.int .i64 a1_0, .int .i64 a1_1] 24 (0, 0)) (bk BK192.out)) (g := gb218) (o := .cells #[.int .i64 t216, .int .i64 t217] 24 (0, 0)) (bk BK218.out)) (g := gb221) (o := .cells #[.int .i64 t219, .int .i64 t220] 24 (0, 0)) (bk BK221.out)) (g := gb232) (o := .cells #[.int .i64 t230, .int .i64 t231] 24 (0, 0)) (bk BK232.out)) (below_size (by repeat first | (with_reducible exact HB.out) | refine bl1 ?_ | (with_reducible refine bset ?_ ‹_›) | exact HB.out)))
           replace BK191 := kb BK191 hb
           replace BK192 := kb BK192 hb
           replace BK218 := kb BK218 hb
           replace BK221 := kb BK221 hb
           replace BK232 := kb BK232 hb
           replace HB := hs' HB (by repeat first | (with_reducible exact HB.out) | refine bl1 ?_ | (with_reducible refine bset ?_ ‹_›) | exact HB.out) hb
           clear hb ho107
           obtain ⟨Ao108, co108, eo108⟩ := Kd.R_slice HO235.out
           (first | subst eo108 | (injection eo108 with f1_ f2_ f3_; have f4_ := f1_.symm; have f5_ := f3_.symm; clear f1_ f2_ f3_; subst f4_; subst f5_))
           refine hK.out _ _ ⟨(blk_cell BK232.out 0).trans rfl, (blk_cell BK232.out 1).trans rfl, (blk_cell BK192.out 0).trans rfl, (blk_cell BK192.out 1).trans rfl⟩ (fun hHeld => ?_)
           clear hK K
           refine norm_ (a' := ?_) ?_ ?_
           rotate_left
           ·
            show Act.put _ (some 66) _ = _
            simp only [ap]; rfl
           refine one_ (i := 3) (N := some 67) (bA 32 15) rfl rfl (one_of HT_.out (by kernel_rfl)) (by decide) (fun K hK => ?_)
           refine goes_ Try.func14 (by kernel_rfl) rfl #[.slice Ao108 y233.length co108] (by rfl) rfl rfl (by (try simp only [mp]); first | done | rfl | (simp only [ld]; rfl)) ?_
           with_reducible refine (serinettelaw01_numbers.calls kj6 _ _ y233 true _ ?side1 ?side2 A83.out).mono ?_
           (case side1 => repeat (first | exact (Kd.R_reads' HO235.out).2.2 | (with_reducible refine Kd.C_alloc ?_ _) | (with_reducible refine Kd.C_drewN ?_ _) | (with_reducible refine Kd.C_drew ?_)))
           (case side2 => exact (Kd.R_reads' HO235.out).2.1)
           rintro e w109 ⟨rfl, hb⟩
           refine ⟨_, rfl, ?_⟩
           replace HO235 := Aside0.mk (Kd.R_below (by (with_reducible repeat (first | apply Kd.R_alloc | apply Kd.R_drewN | apply Kd.R_drew)); exact HO235.out) hb)
           replace BK191 := kb BK191 hb
           replace BK192 := kb BK192 hb
           replace BK218 := kb BK218 hb
           replace BK221 := kb BK221 hb
           replace BK232 := kb BK232 hb
           replace HB := hs' HB (by repeat first | (with_reducible exact HB.out) | refine bl1 ?_ | (with_reducible refine bset ?_ ‹_›) | exact HB.out) hb
           (try clear hb); (try clear hb2); (try clear hk); (try clear hi)
           refine hK.out _ _ ⟨(blk_cell BK232.out 0).trans rfl, (blk_cell BK232.out 1).trans rfl, (blk_cell BK192.out 0).trans rfl, (blk_cell BK192.out 1).trans rfl⟩ (fun hHeld => ?_)
           clear hK K
           refine norm_ (a' := ?_) ?_ ?_
           rotate_left
           ·
            show Act.put _ (some 67) _ = _
            simp only [ap]; rfl
           refine pure_ (i := 4) (N := some 68) (v := ?_) (a' := ?_) (bA 32 31) rfl rfl (any_of HT_.out (by kernel_rfl)) (fun _ _ _ h => h) (Or.inl ⟨by rfl, ?_⟩) ?_ ?_
           rotate_left
           ·
            intro w'
            go_simp; with_reducible rfl
           rotate_left
           ·
            simp only [ap]
            rfl
           refine pure_ (i := 5) (N := some 69) (v := ?_) (a' := ?_) (bA 32 63) rfl rfl (any_of HT_.out (by kernel_rfl)) (fun _ _ _ h => h) (Or.inl ⟨by rfl, ?_⟩) ?_ ?_
           rotate_left
           ·
            intro w'
            go_simp; with_reducible rfl
           rotate_left
           ·
            simp only [ap]
            rfl
           refine take_ (i := 6) (N := some 70) (v := ?_) (a' := ?_) (bA 32 127) rfl rfl (take_ofW HT_.out HW_.out (by kernel_rfl)) (fun _ _ _ h => h) (Or.inl ⟨by rfl, ?_⟩) hHeld ?_ ?_
           rotate_left
           ·
            rintro w' ⟨s0, s1, s2, s3⟩
            go_simp; with_reducible rfl
           rotate_left
           ·
            simp only [ap]
            rfl
           refine pure_ (i := 7) (N := some 71) (v := ?_) (a' := ?_) (bA 32 255) rfl rfl (any_of HT_.out (by kernel_rfl)) (fun _ _ _ h => h) (Or.inl ⟨by rfl, ?_⟩) ?_ ?_
           rotate_left
           ·
            intro w'
            go_simp; with_reducible rfl
           rotate_left
           ·
            simp only [ap]
            rfl
           refine pure_ (i := 8) (N := some 72) (v := ?_) (a' := ?_) (bA 32 511) rfl rfl (any_of HT_.out (by kernel_rfl)) (fun _ _ _ h => h) (Or.inl ⟨by rfl, ?_⟩) ?_ ?_
           rotate_left
           ·
            intro w'
            go_simp; with_reducible rfl
           rotate_left
           ·
            simp only [ap]
            rfl
           refine pure_ (i := 9) (N := some 73) (v := ?_) (a' := ?_) (bA 32 1023) rfl rfl (any_of HT_.out (by kernel_rfl)) (fun _ _ _ h => h) (Or.inl ⟨by rfl, ?_⟩) ?_ ?_
           rotate_left
           ·
            intro w'
            go_simp; with_reducible rfl
           rotate_left
           ·
            simp only [ap]
            rfl
           refine take_ (i := 10) (N := some 74) (v := ?_) (a' := ?_) (bA 32 2047) rfl rfl (take_ofW HT_.out HW_.out (by kernel_rfl)) (fun _ _ _ h => h) (Or.inl ⟨by rfl, ?_⟩) hHeld ?_ ?_
           rotate_left
           ·
            rintro w' ⟨s0, s1, s2, s3⟩
            go_simp; with_reducible rfl
           rotate_left
           ·
            simp only [ap]
            rfl
           refine pure_ (i := 11) (N := some 75) (v := ?_) (a' := ?_) (bA 32 4095) rfl rfl (any_of HT_.out (by kernel_rfl)) (fun _ _ _ h => h) (Or.inl ⟨by rfl, ?_⟩) ?_ ?_
           rotate_left
           ·
            intro w'
            go_simp; with_reducible rfl
           rotate_left
           ·
            simp only [ap]
            rfl
           refine pure_ (i := 12) (N := some 76) (v := ?_) (a' := ?_) (bA 32 8191) rfl rfl (any_of HT_.out (by kernel_rfl)) (fun _ _ _ h => h) (Or.inl ⟨by rfl, ?_⟩) ?_ ?_
           rotate_left
           ·
            intro w'
            go_simp; with_reducible rfl
           rotate_left
           ·
            simp only [ap]
            rfl
           refine pure_ (i := 13) (N := some 77) (v := ?_) (a' := ?_) (bA 32 16383) rfl rfl (any_of HT_.out (by kernel_rfl)) (fun _ _ _ h => h) (Or.inl ⟨by rfl, ?_⟩) ?_ ?_
           rotate_left
           ·
            intro w'
            go_simp; with_reducible rfl
           rotate_left
           ·
            simp only [ap]
            rfl
           refine pure_ (i := 14) (N := some 78) (v := ?_) (a' := ?_) (bA 32 32767) rfl rfl (any_of HT_.out (by kernel_rfl)) (fun _ _ _ h => h) (Or.inl ⟨by rfl, ?_⟩) ?_ ?_
           rotate_left
           ·
            intro w'
            go_simp; with_reducible rfl
           rotate_left
           ·
            simp only [ap]
            rfl
           refine take_ (i := 15) (N := some 79) (v := ?_) (a' := ?_) (bA 32 65535) rfl rfl (take_ofW HT_.out HW_.out (by kernel_rfl)) (fun _ _ _ h => h) (Or.inl ⟨by rfl, ?_⟩) hHeld ?_ ?_
           rotate_left
           ·
            rintro w' ⟨s0, s1, s2, s3⟩
            go_simp; with_reducible rfl
           rotate_left
           ·
            simp only [ap]
            rfl
           refine pure_ (i := 16) (N := some 80) (v := ?_) (a' := ?_) (bA 32 131071) rfl rfl (any_of HT_.out (by kernel_rfl)) (fun _ _ _ h => h) (Or.inl ⟨by rfl, ?_⟩) ?_ ?_
           rotate_left
           ·
            intro w'
            go_simp; with_reducible rfl
           rotate_left
           ·
            simp only [ap]
            rfl
           refine pure_ (i := 17) (N := some 81) (v := ?_) (a' := ?_) (bA 32 262143) rfl rfl (any_of HT_.out (by kernel_rfl)) (fun _ _ _ h => h) (Or.inl ⟨by rfl, ?_⟩) ?_ ?_
           rotate_left
           ·
            intro w'
            go_simp; with_reducible rfl
           rotate_left
           ·
            simp only [ap]
            rfl
           refine pure_ (i := 18) (N := some 82) (v := ?_) (a' := ?_) (bA 32 524287) rfl rfl (any_of HT_.out (by kernel_rfl)) (fun _ _ _ h => h) (Or.inl ⟨by rfl, ?_⟩) ?_ ?_
           rotate_left
           ·
            intro w'
            go_simp; with_reducible rfl
           rotate_left
           ·
            simp only [ap]
            rfl
           refine take_ (i := 19) (N := some 83) (v := ?_) (a' := ?_) (bA 32 1048575) rfl rfl (take_ofW HT_.out HW_.out (by kernel_rfl)) (fun _ _ _ h => h) (Or.inl ⟨by rfl, ?_⟩) hHeld ?_ ?_
           rotate_left
           ·
            rintro w' ⟨s0, s1, s2, s3⟩
            go_simp; with_reducible rfl
           rotate_left
           ·
            simp only [ap]
            rfl
           refine pure_ (i := 20) (N := some 84) (v := ?_) (a' := ?_) (bA 32 2097151) rfl rfl (any_of HT_.out (by kernel_rfl)) (fun _ _ _ h => h) (Or.inl ⟨by rfl, ?_⟩) ?_ ?_
           rotate_left
           ·
            intro w'
            go_simp; with_reducible rfl
           rotate_left
           ·
            simp only [ap]
            rfl
           refine pure_ (i := 21) (N := some 85) (v := ?_) (a' := ?_) (bA 32 4194303) rfl rfl (any_of HT_.out (by kernel_rfl)) (fun _ _ _ h => h) (Or.inl ⟨by rfl, ?_⟩) ?_ ?_
           rotate_left
           ·
            intro w'
            go_simp; with_reducible rfl
           rotate_left
           ·
            simp only [ap]
            rfl
           refine pure_ (i := 22) (N := some 86) (v := ?_) (a' := ?_) (bA 32 8388607) rfl rfl (any_of HT_.out (by kernel_rfl)) (fun _ _ _ h => h) (Or.inl ⟨by rfl, ?_⟩) ?_ ?_
           rotate_left
           ·
            intro w'
            go_simp; with_reducible rfl
           rotate_left
           ·
            simp only [ap]
            rfl
           refine pure_ (i := 23) (N := some 87) (v := ?_) (a' := ?_) (bA 32 16777215) rfl rfl (any_of HT_.out (by kernel_rfl)) (fun _ _ _ h => h) (Or.inl ⟨by rfl, ?_⟩) ?_ ?_
           rotate_left
           ·
            intro w'
            go_simp; with_reducible rfl
           rotate_left
           ·
            simp only [ap]
            rfl
           refine take_ (i := 24) (N := some 88) (v := ?_) (a' := ?_) (bA 32 33554431) rfl rfl (take_ofW HT_.out HW_.out (by kernel_rfl)) (fun _ _ _ h => h) (Or.inl ⟨by rfl, ?_⟩) hHeld ?_ ?_
           rotate_left
           ·
            rintro w' ⟨s0, s1, s2, s3⟩
            go_simp; with_reducible rfl
           rotate_left
           ·
            simp only [ap]
            rfl
           refine take_ (i := 26) (N := some 90) (v := ?_) (a' := ?_) (bA 32 100663295) rfl rfl (take_ofW HT_.out HW_.out (by kernel_rfl)) (fun _ _ _ h => h) (Or.inl ⟨by rfl, ?_⟩) hHeld ?_ ?_
           rotate_left
           ·
            rintro w' ⟨s0, s1, s2, s3⟩
            go_simp; with_reducible rfl
           rotate_left
           ·
            simp only [ap]
            rfl
           refine one_ (i := 25) (N := some 89) (bA 32 134217727) rfl rfl (one_of HT_.out (by kernel_rfl)) (by decide) (fun K hK => ?_)
           refine goes_ Try.func31 (by kernel_rfl) rfl #[.agg #[.int .i64 t230, .int .i64 t231]] (by rfl) rfl rfl (by (try simp only [mp]); first | done | rfl | (simp only [ld]; rfl)) ?_
           with_reducible refine (ratio_Abs.calls kj6 t230 t231 t237 t238 _ A101.out).mono ?_
           rintro e w110 ⟨rfl, hb⟩
           refine ⟨_, rfl, ?_⟩
           replace HO235 := Aside0.mk (Kd.R_below (by (with_reducible repeat (first | apply Kd.R_alloc | apply Kd.R_drewN | apply Kd.R_drew)); exact HO235.out) hb)
           replace BK191 := kb BK191 hb
           replace BK192 := kb BK192 hb
           replace BK218 := kb BK218 hb
           replace BK221 := kb BK221 hb
           replace BK232 := kb BK232 hb
           replace HB := hs' HB (by repeat first | (with_reducible exact HB.out) | refine bl1 ?_ | (with_reducible refine bset ?_ ‹_›) | exact HB.out) hb
           (try clear hb); (try clear hb2); (try clear hk); (try clear hi)
           refine hK.out _ _ ⟨(blk_cell BK232.out 0).trans rfl, (blk_cell BK232.out 1).trans rfl, (blk_cell BK192.out 0).trans rfl, (blk_cell BK192.out 1).trans rfl⟩ (fun hHeld => ?_)
           clear hK K
           refine norm_ (a' := ?_) ?_ ?_
           rotate_left
           ·
            show Act.put _ (some 89) _ = _
            simp only [ap]; rfl
           refine one_ (i := 27) (N := some 91) (bA 32 268435455) rfl rfl (one_of HT_.out (by kernel_rfl)) (by decide) (fun K hK => ?_)
           refine goes_ Try.func31 (by kernel_rfl) rfl #[.agg #[.int .i64 a1_0, .int .i64 a1_1]] (by rfl) rfl rfl (by (try simp only [mp]); first | done | rfl | (simp only [ld]; rfl)) ?_
           with_reducible refine (ratio_Abs.calls kj6 a1_0 a1_1 t239 t240 _ A102.out).mono ?_
           rintro e w111 ⟨rfl, hb⟩
           refine ⟨_, rfl, ?_⟩
           replace HO235 := Aside0.mk (Kd.R_below (by (with_reducible repeat (first | apply Kd.R_alloc | apply Kd.R_drewN | apply Kd.R_drew)); exact HO235.out) hb)
           replace BK191 := kb BK191 hb
           replace BK192 := kb BK192 hb
           replace BK218 := kb BK218 hb
           replace BK221 := kb BK221 hb
           replace BK232 := kb BK232 hb
           replace HB := hs' HB (by repeat first | (with_reducible exact HB.out) | refine bl1 ?_ | (with_reducible refine bset ?_ ‹_›) | exact HB.out) hb
           (try clear hb); (try clear hb2); (try clear hk); (try clear hi)
           refine hK.out _ _ ⟨(blk_cell BK232.out 0).trans rfl, (blk_cell BK232.out 1).trans rfl, (blk_cell BK192.out 0).trans rfl, (blk_cell BK192.out 1).trans rfl⟩ (fun hHeld => ?_)
           clear hK K
           refine norm_ (a' := ?_) ?_ ?_
           rotate_left
           ·
            show Act.put _ (some 91) _ = _
            simp only [ap]; rfl
           refine one_ (i := 28) (N := some 92) (bA 32 536870911) rfl rfl (one_of HT_.out (by kernel_rfl)) (by decide) (fun K hK => ?_)
           refine goes_ Try.func19 (by kernel_rfl) rfl #[.agg #[.int .i64 t237, .int .i64 t238], .agg #[.int .i64 t239, .int .i64 t240]] (by rfl) rfl rfl (by (try simp only [mp]); first | done | rfl | (simp only [ld]; rfl)) ?_
           with_reducible refine (ratio_Cmp.calls kj6 t237 t238 t239 t240 t241 _ A103.out).mono ?_
           rintro e w112 ⟨rfl, hb⟩
           refine ⟨_, rfl, ?_⟩
           replace HO235 := Aside0.mk (Kd.R_below (by (with_reducible repeat (first | apply Kd.R_alloc | apply Kd.R_drewN | apply Kd.R_drew)); exact HO235.out) hb)
           replace BK191 := kb BK191 hb
           replace BK192 := kb BK192 hb
           replace BK218 := kb BK218 hb
           replace BK221 := kb BK221 hb
           replace BK232 := kb BK232 hb
           replace HB := hs' HB (by repeat first | (with_reducible exact HB.out) | refine bl1 ?_ | (with_reducible refine bset ?_ ‹_›) | exact HB.out) hb
           (try clear hb); (try clear hb2); (try clear hk); (try clear hi)
           refine hK.out _ _ ⟨(blk_cell BK232.out 0).trans rfl, (blk_cell BK232.out 1).trans rfl, (blk_cell BK192.out 0).trans rfl, (blk_cell BK192.out 1).trans rfl⟩ (fun hHeld => ?_)
           clear hK K
           refine norm_ (a' := ?_) ?_ ?_
           rotate_left
           ·
            show Act.put _ (some 92) _ = _
            simp only [ap]; rfl
           refine pure_ (i := 29) (N := some 93) (v := ?_) (a' := ?_) (bA 32 1073741823) rfl rfl (any_of HT_.out (by kernel_rfl)) (fun _ _ _ h => h) (Or.inl ⟨by rfl, ?_⟩) ?_ ?_
           rotate_left
           ·
            intro w'
            go_simp; with_reducible rfl
           rotate_left
           ·
            simp only [ap]
            rfl
           refine pure_ (i := 30) (N := some 94) (v := ?_) (a' := ?_) (bA 32 2147483647) rfl rfl (any_of HT_.out (by kernel_rfl)) (fun _ _ _ h => h) (Or.inl ⟨by rfl, ?_⟩) ?_ ?_
           rotate_left
           ·
            intro w'
            go_simp; with_reducible rfl
           rotate_left
           ·
            simp only [ap]
            rfl
           refine pure_ (i := 31) (N := some 95) (v := ?_) (a' := ?_) (bA 32 4294967295) rfl rfl (any_of HT_.out (by kernel_rfl)) (fun _ _ _ h => h) (Or.inl ⟨by rfl, ?_⟩) ?_ ?_
           rotate_left
           ·
            intro w'
            go_simp; with_reducible rfl
           rotate_left
           ·
            simp only [ap]
            rfl
           refine done_ (done_of HT_.out (by kernel_rfl)) ?_
           try go_wp2
           go_meet
           case rel => exact ⟨_, (decide (t241 ≥ 0)), (by first | rfl | (simp; done) | (simp [*]; done)), H', ⟨by have := HJ6.out; first | omega | exact Nat.le_refl _⟩, ⟨by refine bk ?_; exact BK191.out⟩, ⟨by refine bk ?_; exact BK192.out⟩, ⟨by refine bk ?_; exact BK218.out⟩, ⟨by refine bk ?_; exact BK221.out⟩, ⟨by refine bk ?_; exact BK232.out⟩, ⟨by repeat first | exact HB.out | refine bset ?_ ‹_› | apply below_alloc | apply pw_below_drewN | apply below_drew1⟩⟩
         ·
          rw [if_neg c93] at H
          have c93b0 : decide (0 < t230) = false := decide_eq_false c93
          clear c93
          replace H := Option.bind_eq_some_iff.mp H
          obtain ⟨⟨t242, t243⟩, A1130, H⟩ := H
          (try dsimp only at H)
          have A113 := Aside0.mk A1130
          clear A1130
          replace H := Option.bind_eq_some_iff.mp H
          obtain ⟨⟨t244, t245⟩, A1140, H⟩ := H
          (try dsimp only at H)
          have A114 := Aside0.mk A1140
          clear A1140
          replace H := Option.bind_eq_some_iff.mp H
          obtain ⟨t246, A1150, H⟩ := H
          (try dsimp only at H)
          have A115 := Aside0.mk A1150
          clear A1150
          have H' := Aside0.mk H
          clear H
          try go_wp2
          have n0_ : Aside0 (((w77.setCell ⟨gb232, 0, none⟩ (.int .i64 t230)).setCell ⟨gb232, 1, none⟩ (.int .i64 t231)).heap[gb191]? = some (.cells #[.int .i64 a0_0, .int .i64 a0_1] 24 (0, 0))) := ⟨by refine bk ?_; refine blk_far ?_ NB191_232.out _; refine bk ?_; refine blk_far ?_ NB191_232.out _; refine bk ?_; exact BK191.out⟩
          have n1_ : Aside0 (((w77.setCell ⟨gb232, 0, none⟩ (.int .i64 t230)).setCell ⟨gb232, 1, none⟩ (.int .i64 t231)).heap[gb192]? = some (.cells #[.int .i64 a1_0, .int .i64 a1_1] 24 (0, 0))) := ⟨by refine bk ?_; refine blk_far ?_ NB192_232.out _; refine bk ?_; refine blk_far ?_ NB192_232.out _; refine bk ?_; exact BK192.out⟩
          have n2_ : Aside0 (((w77.setCell ⟨gb232, 0, none⟩ (.int .i64 t230)).setCell ⟨gb232, 1, none⟩ (.int .i64 t231)).heap[gb218]? = some (.cells #[.int .i64 t216, .int .i64 t217] 24 (0, 0))) := ⟨by refine bk ?_; refine blk_far ?_ NB218_232.out _; refine bk ?_; refine blk_far ?_ NB218_232.out _; refine bk ?_; exact BK218.out⟩
          have n3_ : Aside0 (((w77.setCell ⟨gb232, 0, none⟩ (.int .i64 t230)).setCell ⟨gb232, 1, none⟩ (.int .i64 t231)).heap[gb221]? = some (.cells #[.int .i64 t219, .int .i64 t220] 24 (0, 0))) := ⟨by refine bk ?_; refine blk_far ?_ NB221_232.out _; refine bk ?_; refine blk_far ?_ NB221_232.out _; refine bk ?_; exact BK221.out⟩
          have n4_ : Aside0 (((w77.setCell ⟨gb232, 0, none⟩ (.int .i64 t230)).setCell ⟨gb232, 1, none⟩ (.int .i64 t231)).heap[gb232]? = some (.cells #[.int .i64 t230, .int .i64 t231] 24 (0, 0))) := ⟨by refine bk ?_; refine blk_put (cs := #[.int .i64 t230, .int .i64 0]) ?_ 1 _ rfl; refine bk ?_; refine blk_put (cs := #[.int .i64 0, .int .i64 0]) ?_ 0 _ rfl; refine bk ?_; exact BK232.out⟩
          have n5_ : Aside0 (Below w.heap.size w ((w77.setCell ⟨gb232, 0, none⟩ (.int .i64 t230)).setCell ⟨gb232, 1, none⟩ (.int .i64 t231))) := ⟨by repeat first | exact HB.out | refine bset ?_ ‹_› | apply below_alloc | apply pw_below_drewN | apply below_drew1⟩
          (try clear BK191); (try clear BK192); (try clear BK218); (try clear BK221); (try clear BK232); (try clear HB)
          generalize ((w77.setCell ⟨gb232, 0, none⟩ (.int .i64 t230)).setCell ⟨gb232, 1, none⟩ (.int .i64 t231)) = w116 at n0_ n1_ n2_ n3_ n4_ n5_ ⊢
          have BK191 := n0_
          have BK192 := n1_
          have BK218 := n2_
          have BK221 := n3_
          have BK232 := n4_
          have HB := n5_
          clear n0_ n1_ n2_ n3_ n4_ n5_
          replace BK191 := kd BK191
          replace BK192 := kd BK192
          replace BK218 := kd BK218
          replace BK221 := kd BK221
          replace BK232 := kd BK232
          replace HB := Aside0.mk (below_drew1 HB.out)
          refine start_ (n := 32) (S := fun w' => w'.cell? ⟨gb232, 0, none⟩ = some (.int .i64 t230) ∧ w'.cell? ⟨gb232, 1, none⟩ = some (.int .i64 t231) ∧ w'.cell? ⟨gb192, 0, none⟩ = some (.int .i64 a1_0) ∧ w'.cell? ⟨gb192, 1, none⟩ = some (.int .i64 a1_1)) (ds := []) (bA 32 0) (by kernel_rfl) rfl rfl ⟨(blk_cell BK232.out 0).trans rfl, (blk_cell BK232.out 1).trans rfl, (blk_cell BK192.out 0).trans rfl, (blk_cell BK192.out 1).trans rfl⟩ (fun hHeld => ?_); refine with_tabW serinettelaw01_NumberRounds.tab8 serinettelaw01_NumberRounds.bits8 (fun HT_ HW_ => ?_)
          generalize w116.drew = w117 at BK191 BK192 BK218 BK221 BK232 HB hHeld ⊢
          refine take_ (i := 0) (N := some 64) (v := ?_) (a' := ?_) (bA 32 1) rfl rfl (take_ofW HT_.out HW_.out (by kernel_rfl)) (fun _ _ _ h => h) (Or.inl ⟨by rfl, ?_⟩) hHeld ?_ ?_
          rotate_left
          ·
           rintro w' ⟨s0, s1, s2, s3⟩
           go_simp; with_reducible rfl
          rotate_left
          ·
           simp only [ap]
           rfl
          refine take_ (i := 1) (N := some 65) (v := ?_) (a' := ?_) (bA 32 3) rfl rfl (take_ofW HT_.out HW_.out (by kernel_rfl)) (fun _ _ _ h => h) (Or.inl ⟨by rfl, ?_⟩) hHeld ?_ ?_
          rotate_left
          ·
           rintro w' ⟨s0, s1, s2, s3⟩
           go_simp; with_reducible rfl
          rotate_left
          ·
           simp only [ap]
           rfl
          refine one_ (i := 2) (N := some 66) (bA 32 7) rfl rfl (one_of HT_.out (by kernel_rfl)) (by decide) (fun K hK => ?_)
          refine Kd.R_lit_step k24 _ 24 ?hg (N := 66) ?hd (xs := ([(⟨t230, t231⟩ : S24), (⟨a1_0, a1_1⟩ : S24)] : List (S24))) (inner := [.int .i64 t230, .int .i64 t231, .int .i64 a1_0, .int .i64 a1_1]) (ok := fun _ => True) (okp := fun _ => True) ?hr ?hp (fun _ hk => hk) trivial (Below.refl _ _) (Nat.le_refl _) (by simp) ?_; (case hd => rfl); (case hg => rfl); (case hr => first | (go_simp; done) | (go_simp; rfl)); (case hp => exact (Reps.c2 (show Kd.M k24 _ _ _ (⟨t230, t231⟩ : S24) [.int .i64 t230, .int .i64 t231] from (k24_mkM _ _ _ (⟨t230, t231⟩ : S24) )) (Reps.c2 (show Kd.M k24 _ _ _ (⟨a1_0, a1_1⟩ : S24) [.int .i64 a1_0, .int .i64 a1_1] from (k24_mkM _ _ _ (⟨a1_0, a1_1⟩ : S24) )) (Reps.none _ _))))
          intro v234 w118 ho119 hb hg_ hnew_
          clear hg_ hnew_
          (first | rw [← Ny233.out] at ho119 | (simp only [Int.reduceToNat] at ho119; rw [← Ny233.out] at ho119))
          have HO235 := Aside0.mk (Kd.R_lower (Kd.R_newB (Kd.R_newB (Kd.R_newB (Kd.R_newB (Kd.R_newB ho119 (g := gb191) (o := .cells #[.int .i64 a0_0, .int .i64 a0_1] 24 (0, 0)) (bk BK191.out)) (g := gb192) (o := .cells #[.int .i64 a1_0, .int .i64 a1_1] 24 (0, 0)) (bk BK192.out)) (g := gb218) (o := .cells #[.int .i64 t216, .int .i64 t217] 24 (0, 0)) (bk BK218.out)) (g := gb221) (o := .cells #[.int .i64 t219, .int .i64 t220] 24 (0, 0)) (bk BK221.out)) (g := gb232) (o := .cells #[.int .i64 t230, .int .i64 t231] 24 (0, 0)) (bk BK232.out)) (below_size (by repeat first | (with_reducible exact HB.out) | refine bl1 ?_ | (with_reducible refine bset ?_ ‹_›) | exact HB.out)))
          replace BK191 := kb BK191 hb
          replace BK192 := kb BK192 hb
          replace BK218 := kb BK218 hb
          replace BK221 := kb BK221 hb
          replace BK232 := kb BK232 hb
          replace HB := hs' HB (by repeat first | (with_reducible exact HB.out) | refine bl1 ?_ | (with_reducible refine bset ?_ ‹_›) | exact HB.out) hb
          clear hb ho119
          obtain ⟨Ao120, co120, eo120⟩ := Kd.R_slice HO235.out
          (first | subst eo120 | (injection eo120 with f1_ f2_ f3_; have f4_ := f1_.symm; have f5_ := f3_.symm; clear f1_ f2_ f3_; subst f4_; subst f5_))
          refine hK.out _ _ ⟨(blk_cell BK232.out 0).trans rfl, (blk_cell BK232.out 1).trans rfl, (blk_cell BK192.out 0).trans rfl, (blk_cell BK192.out 1).trans rfl⟩ (fun hHeld => ?_)
          clear hK K
          refine norm_ (a' := ?_) ?_ ?_
          rotate_left
          ·
           show Act.put _ (some 66) _ = _
           simp only [ap]; rfl
          refine one_ (i := 3) (N := some 67) (bA 32 15) rfl rfl (one_of HT_.out (by kernel_rfl)) (by decide) (fun K hK => ?_)
          refine goes_ Try.func14 (by kernel_rfl) rfl #[.slice Ao120 y233.length co120] (by rfl) rfl rfl (by (try simp only [mp]); first | done | rfl | (simp only [ld]; rfl)) ?_
          with_reducible refine (serinettelaw01_numbers.calls kj6 _ _ y233 true _ ?side1 ?side2 A83.out).mono ?_
          (case side1 => repeat (first | exact (Kd.R_reads' HO235.out).2.2 | (with_reducible refine Kd.C_alloc ?_ _) | (with_reducible refine Kd.C_drewN ?_ _) | (with_reducible refine Kd.C_drew ?_)))
          (case side2 => exact (Kd.R_reads' HO235.out).2.1)
          rintro e w121 ⟨rfl, hb⟩
          refine ⟨_, rfl, ?_⟩
          replace HO235 := Aside0.mk (Kd.R_below (by (with_reducible repeat (first | apply Kd.R_alloc | apply Kd.R_drewN | apply Kd.R_drew)); exact HO235.out) hb)
          replace BK191 := kb BK191 hb
          replace BK192 := kb BK192 hb
          replace BK218 := kb BK218 hb
          replace BK221 := kb BK221 hb
          replace BK232 := kb BK232 hb
          replace HB := hs' HB (by repeat first | (with_reducible exact HB.out) | refine bl1 ?_ | (with_reducible refine bset ?_ ‹_›) | exact HB.out) hb
          (try clear hb); (try clear hb2); (try clear hk); (try clear hi)
          refine hK.out _ _ ⟨(blk_cell BK232.out 0).trans rfl, (blk_cell BK232.out 1).trans rfl, (blk_cell BK192.out 0).trans rfl, (blk_cell BK192.out 1).trans rfl⟩ (fun hHeld => ?_)
          clear hK K
          refine norm_ (a' := ?_) ?_ ?_
          rotate_left
          ·
           show Act.put _ (some 67) _ = _
           simp only [ap]; rfl
          refine pure_ (i := 4) (N := some 68) (v := ?_) (a' := ?_) (bA 32 31) rfl rfl (any_of HT_.out (by kernel_rfl)) (fun _ _ _ h => h) (Or.inl ⟨by rfl, ?_⟩) ?_ ?_
          rotate_left
          ·
           intro w'
           go_simp; with_reducible rfl
          rotate_left
          ·
           simp only [ap]
           rfl
          refine pure_ (i := 5) (N := some 69) (v := ?_) (a' := ?_) (bA 32 63) rfl rfl (any_of HT_.out (by kernel_rfl)) (fun _ _ _ h => h) (Or.inl ⟨by rfl, ?_⟩) ?_ ?_
          rotate_left
          ·
           intro w'
           go_simp; with_reducible rfl
          rotate_left
          ·
           simp only [ap]
           rfl
          refine take_ (i := 6) (N := some 70) (v := ?_) (a' := ?_) (bA 32 127) rfl rfl (take_ofW HT_.out HW_.out (by kernel_rfl)) (fun _ _ _ h => h) (Or.inl ⟨by rfl, ?_⟩) hHeld ?_ ?_
          rotate_left
          ·
           rintro w' ⟨s0, s1, s2, s3⟩
           go_simp; with_reducible rfl
          rotate_left
          ·
           simp only [ap]
           rfl
          refine pure_ (i := 7) (N := some 71) (v := ?_) (a' := ?_) (bA 32 255) rfl rfl (any_of HT_.out (by kernel_rfl)) (fun _ _ _ h => h) (Or.inl ⟨by rfl, ?_⟩) ?_ ?_
          rotate_left
          ·
           intro w'
           go_simp; with_reducible rfl
          rotate_left
          ·
           simp only [ap]
           rfl
          refine pure_ (i := 8) (N := some 72) (v := ?_) (a' := ?_) (bA 32 511) rfl rfl (any_of HT_.out (by kernel_rfl)) (fun _ _ _ h => h) (Or.inl ⟨by rfl, ?_⟩) ?_ ?_
          rotate_left
          ·
           intro w'
           go_simp; with_reducible rfl
          rotate_left
          ·
           simp only [ap]
           rfl
          refine pure_ (i := 9) (N := some 73) (v := ?_) (a' := ?_) (bA 32 1023) rfl rfl (any_of HT_.out (by kernel_rfl)) (fun _ _ _ h => h) (Or.inl ⟨by rfl, ?_⟩) ?_ ?_
          rotate_left
          ·
           intro w'
           go_simp; with_reducible rfl
          rotate_left
          ·
           simp only [ap]
           rfl
          refine take_ (i := 10) (N := some 74) (v := ?_) (a' := ?_) (bA 32 2047) rfl rfl (take_ofW HT_.out HW_.out (by kernel_rfl)) (fun _ _ _ h => h) (Or.inl ⟨by rfl, ?_⟩) hHeld ?_ ?_
          rotate_left
          ·
           rintro w' ⟨s0, s1, s2, s3⟩
           go_simp; with_reducible rfl
          rotate_left
          ·
           simp only [ap]
           rfl
          refine pure_ (i := 11) (N := some 75) (v := ?_) (a' := ?_) (bA 32 4095) rfl rfl (any_of HT_.out (by kernel_rfl)) (fun _ _ _ h => h) (Or.inl ⟨by rfl, ?_⟩) ?_ ?_
          rotate_left
          ·
           intro w'
           go_simp; with_reducible rfl
          rotate_left
          ·
           simp only [ap]
           rfl
          refine pure_ (i := 12) (N := some 76) (v := ?_) (a' := ?_) (bA 32 8191) rfl rfl (any_of HT_.out (by kernel_rfl)) (fun _ _ _ h => h) (Or.inl ⟨by rfl, ?_⟩) ?_ ?_
          rotate_left
          ·
           intro w'
           go_simp; with_reducible rfl
          rotate_left
          ·
           simp only [ap]
           rfl
          refine pure_ (i := 13) (N := some 77) (v := ?_) (a' := ?_) (bA 32 16383) rfl rfl (any_of HT_.out (by kernel_rfl)) (fun _ _ _ h => h) (Or.inl ⟨by rfl, ?_⟩) ?_ ?_
          rotate_left
          ·
           intro w'
           go_simp; with_reducible rfl
          rotate_left
          ·
           simp only [ap]
           rfl
          refine pure_ (i := 14) (N := some 78) (v := ?_) (a' := ?_) (bA 32 32767) rfl rfl (any_of HT_.out (by kernel_rfl)) (fun _ _ _ h => h) (Or.inl ⟨by rfl, ?_⟩) ?_ ?_
          rotate_left
          ·
           intro w'
           go_simp; with_reducible rfl
          rotate_left
          ·
           simp only [ap]
           rfl
          refine take_ (i := 15) (N := some 79) (v := ?_) (a' := ?_) (bA 32 65535) rfl rfl (take_ofW HT_.out HW_.out (by kernel_rfl)) (fun _ _ _ h => h) (Or.inl ⟨by rfl, ?_⟩) hHeld ?_ ?_
          rotate_left
          ·
           rintro w' ⟨s0, s1, s2, s3⟩
           go_simp; with_reducible rfl
          rotate_left
          ·
           simp only [ap]
           rfl
          refine pure_ (i := 16) (N := some 80) (v := ?_) (a' := ?_) (bA 32 131071) rfl rfl (any_of HT_.out (by kernel_rfl)) (fun _ _ _ h => h) (Or.inl ⟨by rfl, ?_⟩) ?_ ?_
          rotate_left
          ·
           intro w'
           go_simp; with_reducible rfl
          rotate_left
          ·
           simp only [ap]
           rfl
          refine pure_ (i := 17) (N := some 81) (v := ?_) (a' := ?_) (bA 32 262143) rfl rfl (any_of HT_.out (by kernel_rfl)) (fun _ _ _ h => h) (Or.inl ⟨by rfl, ?_⟩) ?_ ?_
          rotate_left
          ·
           intro w'
           go_simp; with_reducible rfl
          rotate_left
          ·
           simp only [ap]
           rfl
          refine pure_ (i := 18) (N := some 82) (v := undef) (a' := ?_) (bA 32 524287) rfl rfl (any_of HT_.out (by kernel_rfl)) (fun _ _ _ h => h) (Or.inr ⟨by rfl, rfl⟩) ?_ ?_
          rotate_left
          ·
           simp only [ap]
           rfl
          refine pure_ (i := 19) (N := some 83) (v := undef) (a' := ?_) (bA 32 1048575) rfl rfl (any_of HT_.out (by kernel_rfl)) (fun _ _ _ h => h) (Or.inr ⟨by rfl, rfl⟩) ?_ ?_
          rotate_left
          ·
           simp only [ap]
           rfl
          refine pure_ (i := 20) (N := some 84) (v := undef) (a' := ?_) (bA 32 2097151) rfl rfl (any_of HT_.out (by kernel_rfl)) (fun _ _ _ h => h) (Or.inr ⟨by rfl, rfl⟩) ?_ ?_
          rotate_left
          ·
           simp only [ap]
           rfl
          refine pure_ (i := 21) (N := some 85) (v := ?_) (a' := ?_) (bA 32 4194303) rfl rfl (any_of HT_.out (by kernel_rfl)) (fun _ _ _ h => h) (Or.inl ⟨by rfl, ?_⟩) ?_ ?_
          rotate_left
          ·
           intro w'
           go_simp; with_reducible rfl
          rotate_left
          ·
           simp only [ap]
           rfl
          refine pure_ (i := 22) (N := some 86) (v := ?_) (a' := ?_) (bA 32 8388607) rfl rfl (any_of HT_.out (by kernel_rfl)) (fun _ _ _ h => h) (Or.inl ⟨by rfl, ?_⟩) ?_ ?_
          rotate_left
          ·
           intro w'
           go_simp; with_reducible rfl
          rotate_left
          ·
           simp only [ap]
           rfl
          refine pure_ (i := 23) (N := some 87) (v := ?_) (a' := ?_) (bA 32 16777215) rfl rfl (any_of HT_.out (by kernel_rfl)) (fun _ _ _ h => h) (Or.inl ⟨by rfl, ?_⟩) ?_ ?_
          rotate_left
          ·
           intro w'
           go_simp; with_reducible rfl
          rotate_left
          ·
           simp only [ap]
           rfl
          refine take_ (i := 24) (N := some 88) (v := ?_) (a' := ?_) (bA 32 33554431) rfl rfl (take_ofW HT_.out HW_.out (by kernel_rfl)) (fun _ _ _ h => h) (Or.inl ⟨by rfl, ?_⟩) hHeld ?_ ?_
          rotate_left
          ·
           rintro w' ⟨s0, s1, s2, s3⟩
           go_simp; with_reducible rfl
          rotate_left
          ·
           simp only [ap]
           rfl
          refine take_ (i := 26) (N := some 90) (v := ?_) (a' := ?_) (bA 32 100663295) rfl rfl (take_ofW HT_.out HW_.out (by kernel_rfl)) (fun _ _ _ h => h) (Or.inl ⟨by rfl, ?_⟩) hHeld ?_ ?_
          rotate_left
          ·
           rintro w' ⟨s0, s1, s2, s3⟩
           go_simp; with_reducible rfl
          rotate_left
          ·
           simp only [ap]
           rfl
          refine one_ (i := 25) (N := some 89) (bA 32 134217727) rfl rfl (one_of HT_.out (by kernel_rfl)) (by decide) (fun K hK => ?_)
          refine goes_ Try.func31 (by kernel_rfl) rfl #[.agg #[.int .i64 t230, .int .i64 t231]] (by rfl) rfl rfl (by (try simp only [mp]); first | done | rfl | (simp only [ld]; rfl)) ?_
          with_reducible refine (ratio_Abs.calls kj6 t230 t231 t242 t243 _ A113.out).mono ?_
          rintro e w122 ⟨rfl, hb⟩
          refine ⟨_, rfl, ?_⟩
          replace HO235 := Aside0.mk (Kd.R_below (by (with_reducible repeat (first | apply Kd.R_alloc | apply Kd.R_drewN | apply Kd.R_drew)); exact HO235.out) hb)
          replace BK191 := kb BK191 hb
          replace BK192 := kb BK192 hb
          replace BK218 := kb BK218 hb
          replace BK221 := kb BK221 hb
          replace BK232 := kb BK232 hb
          replace HB := hs' HB (by repeat first | (with_reducible exact HB.out) | refine bl1 ?_ | (with_reducible refine bset ?_ ‹_›) | exact HB.out) hb
          (try clear hb); (try clear hb2); (try clear hk); (try clear hi)
          refine hK.out _ _ ⟨(blk_cell BK232.out 0).trans rfl, (blk_cell BK232.out 1).trans rfl, (blk_cell BK192.out 0).trans rfl, (blk_cell BK192.out 1).trans rfl⟩ (fun hHeld => ?_)
          clear hK K
          refine norm_ (a' := ?_) ?_ ?_
          rotate_left
          ·
           show Act.put _ (some 89) _ = _
           simp only [ap]; rfl
          refine one_ (i := 27) (N := some 91) (bA 32 268435455) rfl rfl (one_of HT_.out (by kernel_rfl)) (by decide) (fun K hK => ?_)
          refine goes_ Try.func31 (by kernel_rfl) rfl #[.agg #[.int .i64 a1_0, .int .i64 a1_1]] (by rfl) rfl rfl (by (try simp only [mp]); first | done | rfl | (simp only [ld]; rfl)) ?_
          with_reducible refine (ratio_Abs.calls kj6 a1_0 a1_1 t244 t245 _ A114.out).mono ?_
          rintro e w123 ⟨rfl, hb⟩
          refine ⟨_, rfl, ?_⟩
          replace HO235 := Aside0.mk (Kd.R_below (by (with_reducible repeat (first | apply Kd.R_alloc | apply Kd.R_drewN | apply Kd.R_drew)); exact HO235.out) hb)
          replace BK191 := kb BK191 hb
          replace BK192 := kb BK192 hb
          replace BK218 := kb BK218 hb
          replace BK221 := kb BK221 hb
          replace BK232 := kb BK232 hb
          replace HB := hs' HB (by repeat first | (with_reducible exact HB.out) | refine bl1 ?_ | (with_reducible refine bset ?_ ‹_›) | exact HB.out) hb
          (try clear hb); (try clear hb2); (try clear hk); (try clear hi)
          refine hK.out _ _ ⟨(blk_cell BK232.out 0).trans rfl, (blk_cell BK232.out 1).trans rfl, (blk_cell BK192.out 0).trans rfl, (blk_cell BK192.out 1).trans rfl⟩ (fun hHeld => ?_)
          clear hK K
          refine norm_ (a' := ?_) ?_ ?_
          rotate_left
          ·
           show Act.put _ (some 91) _ = _
           simp only [ap]; rfl
          refine one_ (i := 28) (N := some 92) (bA 32 536870911) rfl rfl (one_of HT_.out (by kernel_rfl)) (by decide) (fun K hK => ?_)
          refine goes_ Try.func19 (by kernel_rfl) rfl #[.agg #[.int .i64 t242, .int .i64 t243], .agg #[.int .i64 t244, .int .i64 t245]] (by rfl) rfl rfl (by (try simp only [mp]); first | done | rfl | (simp only [ld]; rfl)) ?_
          with_reducible refine (ratio_Cmp.calls kj6 t242 t243 t244 t245 t246 _ A115.out).mono ?_
          rintro e w124 ⟨rfl, hb⟩
          refine ⟨_, rfl, ?_⟩
          replace HO235 := Aside0.mk (Kd.R_below (by (with_reducible repeat (first | apply Kd.R_alloc | apply Kd.R_drewN | apply Kd.R_drew)); exact HO235.out) hb)
          replace BK191 := kb BK191 hb
          replace BK192 := kb BK192 hb
          replace BK218 := kb BK218 hb
          replace BK221 := kb BK221 hb
          replace BK232 := kb BK232 hb
          replace HB := hs' HB (by repeat first | (with_reducible exact HB.out) | refine bl1 ?_ | (with_reducible refine bset ?_ ‹_›) | exact HB.out) hb
          (try clear hb); (try clear hb2); (try clear hk); (try clear hi)
          refine hK.out _ _ ⟨(blk_cell BK232.out 0).trans rfl, (blk_cell BK232.out 1).trans rfl, (blk_cell BK192.out 0).trans rfl, (blk_cell BK192.out 1).trans rfl⟩ (fun hHeld => ?_)
          clear hK K
          refine norm_ (a' := ?_) ?_ ?_
          rotate_left
          ·
           show Act.put _ (some 92) _ = _
           simp only [ap]; rfl
          refine pure_ (i := 29) (N := some 93) (v := ?_) (a' := ?_) (bA 32 1073741823) rfl rfl (any_of HT_.out (by kernel_rfl)) (fun _ _ _ h => h) (Or.inl ⟨by rfl, ?_⟩) ?_ ?_
          rotate_left
          ·
           intro w'
           go_simp; with_reducible rfl
          rotate_left
          ·
           simp only [ap]
           rfl
          refine pure_ (i := 30) (N := some 94) (v := ?_) (a' := ?_) (bA 32 2147483647) rfl rfl (any_of HT_.out (by kernel_rfl)) (fun _ _ _ h => h) (Or.inl ⟨by rfl, ?_⟩) ?_ ?_
          rotate_left
          ·
           intro w'
           go_simp; with_reducible rfl
          rotate_left
          ·
           simp only [ap]
           rfl
          refine pure_ (i := 31) (N := some 95) (v := ?_) (a' := ?_) (bA 32 4294967295) rfl rfl (any_of HT_.out (by kernel_rfl)) (fun _ _ _ h => h) (Or.inl ⟨by rfl, ?_⟩) ?_ ?_
          rotate_left
          ·
           intro w'
           go_simp; with_reducible rfl
          rotate_left
          ·
           simp only [ap]
           rfl
          refine done_ (done_of HT_.out (by kernel_rfl)) ?_
          try go_wp2
          go_meet
          case rel => exact ⟨_, (decide (t246 ≥ 0)), (by first | rfl | (simp; done) | (simp [*]; done)), H', ⟨by have := HJ6.out; first | omega | exact Nat.le_refl _⟩, ⟨by refine bk ?_; exact BK191.out⟩, ⟨by refine bk ?_; exact BK192.out⟩, ⟨by refine bk ?_; exact BK218.out⟩, ⟨by refine bk ?_; exact BK221.out⟩, ⟨by refine bk ?_; exact BK232.out⟩, ⟨by repeat first | exact HB.out | refine bset ?_ ‹_› | apply below_alloc | apply pw_below_drewN | apply below_drew1⟩⟩
       ·
        rw [if_neg c85] at H
        have c85b0 : decide (t230 < 0) = false := decide_eq_false c85
        clear c85
        (first | rw [c85b0] | (simp only [i64_w, i32_w]; rw [c85b0]) | skip)
        by_cases c125 : t230 > 0
        ·
         rw [if_pos c125] at H
         have c125b0 : decide (0 < t230) = true := decide_eq_true c125
         clear c125
         by_cases c126 : a1_0 < 0
         ·
          rw [if_pos c126] at H
          have c126b0 : decide (a1_0 < 0) = true := decide_eq_true c126
          clear c126
          have H' := Aside0.mk H
          clear H
          try go_wp2
          have n0_ : Aside0 (((w77.setCell ⟨gb232, 0, none⟩ (.int .i64 t230)).setCell ⟨gb232, 1, none⟩ (.int .i64 t231)).heap[gb191]? = some (.cells #[.int .i64 a0_0, .int .i64 a0_1] 24 (0, 0))) := ⟨by refine bk ?_; refine blk_far ?_ NB191_232.out _; refine bk ?_; refine blk_far ?_ NB191_232.out _; refine bk ?_; exact BK191.out⟩
          have n1_ : Aside0 (((w77.setCell ⟨gb232, 0, none⟩ (.int .i64 t230)).setCell ⟨gb232, 1, none⟩ (.int .i64 t231)).heap[gb192]? = some (.cells #[.int .i64 a1_0, .int .i64 a1_1] 24 (0, 0))) := ⟨by refine bk ?_; refine blk_far ?_ NB192_232.out _; refine bk ?_; refine blk_far ?_ NB192_232.out _; refine bk ?_; exact BK192.out⟩
          have n2_ : Aside0 (((w77.setCell ⟨gb232, 0, none⟩ (.int .i64 t230)).setCell ⟨gb232, 1, none⟩ (.int .i64 t231)).heap[gb218]? = some (.cells #[.int .i64 t216, .int .i64 t217] 24 (0, 0))) := ⟨by refine bk ?_; refine blk_far ?_ NB218_232.out _; refine bk ?_; refine blk_far ?_ NB218_232.out _; refine bk ?_; exact BK218.out⟩
          have n3_ : Aside0 (((w77.setCell ⟨gb232, 0, none⟩ (.int .i64 t230)).setCell ⟨gb232, 1, none⟩ (.int .i64 t231)).heap[gb221]? = some (.cells #[.int .i64 t219, .int .i64 t220] 24 (0, 0))) := ⟨by refine bk ?_; refine blk_far ?_ NB221_232.out _; refine bk ?_; refine blk_far ?_ NB221_232.out _; refine bk ?_; exact BK221.out⟩
          have n4_ : Aside0 (((w77.setCell ⟨gb232, 0, none⟩ (.int .i64 t230)).setCell ⟨gb232, 1, none⟩ (.int .i64 t231)).heap[gb232]? = some (.cells #[.int .i64 t230, .int .i64 t231] 24 (0, 0))) := ⟨by refine bk ?_; refine blk_put (cs := #[.int .i64 t230, .int .i64 0]) ?_ 1 _ rfl; refine bk ?_; refine blk_put (cs := #[.int .i64 0, .int .i64 0]) ?_ 0 _ rfl; refine bk ?_; exact BK232.out⟩
          have n5_ : Aside0 (Below w.heap.size w ((w77.setCell ⟨gb232, 0, none⟩ (.int .i64 t230)).setCell ⟨gb232, 1, none⟩ (.int .i64 t231))) := ⟨by repeat first | exact HB.out | refine bset ?_ ‹_› | apply below_alloc | apply pw_below_drewN | apply below_drew1⟩
          (try clear BK191); (try clear BK192); (try clear BK218); (try clear BK221); (try clear BK232); (try clear HB)
          generalize ((w77.setCell ⟨gb232, 0, none⟩ (.int .i64 t230)).setCell ⟨gb232, 1, none⟩ (.int .i64 t231)) = w127 at n0_ n1_ n2_ n3_ n4_ n5_ ⊢
          have BK191 := n0_
          have BK192 := n1_
          have BK218 := n2_
          have BK221 := n3_
          have BK232 := n4_
          have HB := n5_
          clear n0_ n1_ n2_ n3_ n4_ n5_
          replace BK191 := kd BK191
          replace BK192 := kd BK192
          replace BK218 := kd BK218
          replace BK221 := kd BK221
          replace BK232 := kd BK232
          replace HB := Aside0.mk (below_drew1 HB.out)
          refine start_ (n := 32) (S := fun w' => w'.cell? ⟨gb232, 0, none⟩ = some (.int .i64 t230) ∧ w'.cell? ⟨gb232, 1, none⟩ = some (.int .i64 t231) ∧ w'.cell? ⟨gb192, 0, none⟩ = some (.int .i64 a1_0) ∧ w'.cell? ⟨gb192, 1, none⟩ = some (.int .i64 a1_1)) (ds := []) (bA 32 0) (by kernel_rfl) rfl rfl ⟨(blk_cell BK232.out 0).trans rfl, (blk_cell BK232.out 1).trans rfl, (blk_cell BK192.out 0).trans rfl, (blk_cell BK192.out 1).trans rfl⟩ (fun hHeld => ?_); refine with_tabW serinettelaw01_NumberRounds.tab8 serinettelaw01_NumberRounds.bits8 (fun HT_ HW_ => ?_)
          generalize w127.drew = w128 at BK191 BK192 BK218 BK221 BK232 HB hHeld ⊢
          refine take_ (i := 0) (N := some 64) (v := ?_) (a' := ?_) (bA 32 1) rfl rfl (take_ofW HT_.out HW_.out (by kernel_rfl)) (fun _ _ _ h => h) (Or.inl ⟨by rfl, ?_⟩) hHeld ?_ ?_
          rotate_left
          ·
           rintro w' ⟨s0, s1, s2, s3⟩
           go_simp; with_reducible rfl
          rotate_left
          ·
           simp only [ap]
           rfl
          refine take_ (i := 1) (N := some 65) (v := ?_) (a' := ?_) (bA 32 3) rfl rfl (take_ofW HT_.out HW_.out (by kernel_rfl)) (fun _ _ _ h => h) (Or.inl ⟨by rfl, ?_⟩) hHeld ?_ ?_
          rotate_left
          ·
           rintro w' ⟨s0, s1, s2, s3⟩
           go_simp; with_reducible rfl
          rotate_left
          ·
           simp only [ap]
           rfl
          refine one_ (i := 2) (N := some 66) (bA 32 7) rfl rfl (one_of HT_.out (by kernel_rfl)) (by decide) (fun K hK => ?_)
          refine Kd.R_lit_step k24 _ 24 ?hg (N := 66) ?hd (xs := ([(⟨t230, t231⟩ : S24), (⟨a1_0, a1_1⟩ : S24)] : List (S24))) (inner := [.int .i64 t230, .int .i64 t231, .int .i64 a1_0, .int .i64 a1_1]) (ok := fun _ => True) (okp := fun _ => True) ?hr ?hp (fun _ hk => hk) trivial (Below.refl _ _) (Nat.le_refl _) (by simp) ?_; (case hd => rfl); (case hg => rfl); (case hr => first | (go_simp; done) | (go_simp; rfl)); (case hp => exact (Reps.c2 (show Kd.M k24 _ _ _ (⟨t230, t231⟩ : S24) [.int .i64 t230, .int .i64 t231] from (k24_mkM _ _ _ (⟨t230, t231⟩ : S24) )) (Reps.c2 (show Kd.M k24 _ _ _ (⟨a1_0, a1_1⟩ : S24) [.int .i64 a1_0, .int .i64 a1_1] from (k24_mkM _ _ _ (⟨a1_0, a1_1⟩ : S24) )) (Reps.none _ _))))
          intro v234 w129 ho130 hb hg_ hnew_
          clear hg_ hnew_
          (first | rw [← Ny233.out] at ho130 | (simp only [Int.reduceToNat] at ho130; rw [← Ny233.out] at ho130))
          have HO235 := Aside0.mk (Kd.R_lower (Kd.R_newB (Kd.R_newB (Kd.R_newB (Kd.R_newB (Kd.R_newB ho130 (g := gb191) (o := .cells #[.int .i64 a0_0, .int .i64 a0_1] 24 (0, 0)) (bk BK191.out)) (g := gb192) (o := .cells #[.int .i64 a1_0, .int .i64 a1_1] 24 (0, 0)) (bk BK192.out)) (g := gb218) (o := .cells #[.int .i64 t216, .int .i64 t217] 24 (0, 0)) (bk BK218.out)) (g := gb221) (o := .cells #[.int .i64 t219, .int .i64 t220] 24 (0, 0)) (bk BK221.out)) (g := gb232) (o := .cells #[.int .i64 t230, .int .i64 t231] 24 (0, 0)) (bk BK232.out)) (below_size (by repeat first | (with_reducible exact HB.out) | refine bl1 ?_ | (with_reducible refine bset ?_ ‹_›) | exact HB.out)))
          replace BK191 := kb BK191 hb
          replace BK192 := kb BK192 hb
          replace BK218 := kb BK218 hb
          replace BK221 := kb BK221 hb
          replace BK232 := kb BK232 hb
          replace HB := hs' HB (by repeat first | (with_reducible exact HB.out) | refine bl1 ?_ | (with_reducible refine bset ?_ ‹_›) | exact HB.out) hb
          clear hb ho130
          obtain ⟨Ao131, co131, eo131⟩ := Kd.R_slice HO235.out
          (first | subst eo131 | (injection eo131 with f1_ f2_ f3_; have f4_ := f1_.symm; have f5_ := f3_.symm; clear f1_ f2_ f3_; subst f4_; subst f5_))
          refine hK.out _ _ ⟨(blk_cell BK232.out 0).trans rfl, (blk_cell BK232.out 1).trans rfl, (blk_cell BK192.out 0).trans rfl, (blk_cell BK192.out 1).trans rfl⟩ (fun hHeld => ?_)
          clear hK K
          refine norm_ (a' := ?_) ?_ ?_
          rotate_left
          ·
           show Act.put _ (some 66) _ = _
           simp only [ap]; rfl
          refine one_ (i := 3) (N := some 67) (bA 32 15) rfl rfl (one_of HT_.out (by kernel_rfl)) (by decide) (fun K hK => ?_)
          refine goes_ Try.func14 (by kernel_rfl) rfl #[.slice Ao131 y233.length co131] (by rfl) rfl rfl (by (try simp only [mp]); first | done | rfl | (simp only [ld]; rfl)) ?_
          with_reducible refine (serinettelaw01_numbers.calls kj6 _ _ y233 true _ ?side1 ?side2 A83.out).mono ?_
          (case side1 => repeat (first | exact (Kd.R_reads' HO235.out).2.2 | (with_reducible refine Kd.C_alloc ?_ _) | (with_reducible refine Kd.C_drewN ?_ _) | (with_reducible refine Kd.C_drew ?_)))
          (case side2 => exact (Kd.R_reads' HO235.out).2.1)
          rintro e w132 ⟨rfl, hb⟩
          refine ⟨_, rfl, ?_⟩
          replace HO235 := Aside0.mk (Kd.R_below (by (with_reducible repeat (first | apply Kd.R_alloc | apply Kd.R_drewN | apply Kd.R_drew)); exact HO235.out) hb)
          replace BK191 := kb BK191 hb
          replace BK192 := kb BK192 hb
          replace BK218 := kb BK218 hb
          replace BK221 := kb BK221 hb
          replace BK232 := kb BK232 hb
          replace HB := hs' HB (by repeat first | (with_reducible exact HB.out) | refine bl1 ?_ | (with_reducible refine bset ?_ ‹_›) | exact HB.out) hb
          (try clear hb); (try clear hb2); (try clear hk); (try clear hi)
          refine hK.out _ _ ⟨(blk_cell BK232.out 0).trans rfl, (blk_cell BK232.out 1).trans rfl, (blk_cell BK192.out 0).trans rfl, (blk_cell BK192.out 1).trans rfl⟩ (fun hHeld => ?_)
          clear hK K
          refine norm_ (a' := ?_) ?_ ?_
          rotate_left
          ·
           show Act.put _ (some 67) _ = _
           simp only [ap]; rfl
          refine pure_ (i := 4) (N := some 68) (v := ?_) (a' := ?_) (bA 32 31) rfl rfl (any_of HT_.out (by kernel_rfl)) (fun _ _ _ h => h) (Or.inl ⟨by rfl, ?_⟩) ?_ ?_
          rotate_left
          ·
           intro w'
           go_simp; with_reducible rfl
          rotate_left
          ·
           simp only [ap]
           rfl
          refine pure_ (i := 5) (N := some 69) (v := ?_) (a' := ?_) (bA 32 63) rfl rfl (any_of HT_.out (by kernel_rfl)) (fun _ _ _ h => h) (Or.inl ⟨by rfl, ?_⟩) ?_ ?_
          rotate_left
          ·
           intro w'
           go_simp; with_reducible rfl
          rotate_left
          ·
           simp only [ap]
           rfl
          refine take_ (i := 6) (N := some 70) (v := ?_) (a' := ?_) (bA 32 127) rfl rfl (take_ofW HT_.out HW_.out (by kernel_rfl)) (fun _ _ _ h => h) (Or.inl ⟨by rfl, ?_⟩) hHeld ?_ ?_
          rotate_left
          ·
           rintro w' ⟨s0, s1, s2, s3⟩
           go_simp; with_reducible rfl
          rotate_left
          ·
           simp only [ap]
           rfl
          refine pure_ (i := 7) (N := some 71) (v := ?_) (a' := ?_) (bA 32 255) rfl rfl (any_of HT_.out (by kernel_rfl)) (fun _ _ _ h => h) (Or.inl ⟨by rfl, ?_⟩) ?_ ?_
          rotate_left
          ·
           intro w'
           go_simp; with_reducible rfl
          rotate_left
          ·
           simp only [ap]
           rfl
          refine pure_ (i := 8) (N := some 72) (v := ?_) (a' := ?_) (bA 32 511) rfl rfl (any_of HT_.out (by kernel_rfl)) (fun _ _ _ h => h) (Or.inl ⟨by rfl, ?_⟩) ?_ ?_
          rotate_left
          ·
           intro w'
           go_simp; with_reducible rfl
          rotate_left
          ·
           simp only [ap]
           rfl
          refine pure_ (i := 9) (N := some 73) (v := undef) (a' := ?_) (bA 32 1023) rfl rfl (any_of HT_.out (by kernel_rfl)) (fun _ _ _ h => h) (Or.inr ⟨by rfl, rfl⟩) ?_ ?_
          rotate_left
          ·
           simp only [ap]
           rfl
          refine pure_ (i := 10) (N := some 74) (v := undef) (a' := ?_) (bA 32 2047) rfl rfl (any_of HT_.out (by kernel_rfl)) (fun _ _ _ h => h) (Or.inr ⟨by rfl, rfl⟩) ?_ ?_
          rotate_left
          ·
           simp only [ap]
           rfl
          refine pure_ (i := 11) (N := some 75) (v := undef) (a' := ?_) (bA 32 4095) rfl rfl (any_of HT_.out (by kernel_rfl)) (fun _ _ _ h => h) (Or.inr ⟨by rfl, rfl⟩) ?_ ?_
          rotate_left
          ·
           simp only [ap]
           rfl
          refine pure_ (i := 12) (N := some 76) (v := ?_) (a' := ?_) (bA 32 8191) rfl rfl (any_of HT_.out (by kernel_rfl)) (fun _ _ _ h => h) (Or.inl ⟨by rfl, ?_⟩) ?_ ?_
          rotate_left
          ·
           intro w'
           go_simp; with_reducible rfl
          rotate_left
          ·
           simp only [ap]
           rfl
          refine pure_ (i := 13) (N := some 77) (v := ?_) (a' := ?_) (bA 32 16383) rfl rfl (any_of HT_.out (by kernel_rfl)) (fun _ _ _ h => h) (Or.inl ⟨by rfl, ?_⟩) ?_ ?_
          rotate_left
          ·
           intro w'
           go_simp; with_reducible rfl
          rotate_left
          ·
           simp only [ap]
           rfl
          refine pure_ (i := 14) (N := some 78) (v := ?_) (a' := ?_) (bA 32 32767) rfl rfl (any_of HT_.out (by kernel_rfl)) (fun _ _ _ h => h) (Or.inl ⟨by rfl, ?_⟩) ?_ ?_
          rotate_left
          ·
           intro w'
           go_simp; with_reducible rfl
          rotate_left
          ·
           simp only [ap]
           rfl
          refine take_ (i := 15) (N := some 79) (v := ?_) (a' := ?_) (bA 32 65535) rfl rfl (take_ofW HT_.out HW_.out (by kernel_rfl)) (fun _ _ _ h => h) (Or.inl ⟨by rfl, ?_⟩) hHeld ?_ ?_
          rotate_left
          ·
           rintro w' ⟨s0, s1, s2, s3⟩
           go_simp; with_reducible rfl
          rotate_left
          ·
           simp only [ap]
           rfl
          refine pure_ (i := 16) (N := some 80) (v := ?_) (a' := ?_) (bA 32 131071) rfl rfl (any_of HT_.out (by kernel_rfl)) (fun _ _ _ h => h) (Or.inl ⟨by rfl, ?_⟩) ?_ ?_
          rotate_left
          ·
           intro w'
           go_simp; with_reducible rfl
          rotate_left
          ·
           simp only [ap]
           rfl
          refine pure_ (i := 17) (N := some 81) (v := ?_) (a' := ?_) (bA 32 262143) rfl rfl (any_of HT_.out (by kernel_rfl)) (fun _ _ _ h => h) (Or.inl ⟨by rfl, ?_⟩) ?_ ?_
          rotate_left
          ·
           intro w'
           go_simp; with_reducible rfl
          rotate_left
          ·
           simp only [ap]
           rfl
          refine pure_ (i := 18) (N := some 82) (v := ?_) (a' := ?_) (bA 32 524287) rfl rfl (any_of HT_.out (by kernel_rfl)) (fun _ _ _ h => h) (Or.inl ⟨by rfl, ?_⟩) ?_ ?_
          rotate_left
          ·
           intro w'
           go_simp; with_reducible rfl
          rotate_left
          ·
           simp only [ap]
           rfl
          refine take_ (i := 19) (N := some 83) (v := ?_) (a' := ?_) (bA 32 1048575) rfl rfl (take_ofW HT_.out HW_.out (by kernel_rfl)) (fun _ _ _ h => h) (Or.inl ⟨by rfl, ?_⟩) hHeld ?_ ?_
          rotate_left
          ·
           rintro w' ⟨s0, s1, s2, s3⟩
           go_simp; with_reducible rfl
          rotate_left
          ·
           simp only [ap]
           rfl
          refine pure_ (i := 20) (N := some 84) (v := ?_) (a' := ?_) (bA 32 2097151) rfl rfl (any_of HT_.out (by kernel_rfl)) (fun _ _ _ h => h) (Or.inl ⟨by rfl, ?_⟩) ?_ ?_
          rotate_left
          ·
           intro w'
           go_simp; with_reducible rfl
          rotate_left
          ·
           simp only [ap]
           rfl
          refine pure_ (i := 21) (N := some 85) (v := ?_) (a' := ?_) (bA 32 4194303) rfl rfl (any_of HT_.out (by kernel_rfl)) (fun _ _ _ h => h) (Or.inl ⟨by rfl, ?_⟩) ?_ ?_
          rotate_left
          ·
           intro w'
           go_simp; with_reducible rfl
          rotate_left
          ·
           simp only [ap]
           rfl
          refine pure_ (i := 22) (N := some 86) (v := ?_) (a' := ?_) (bA 32 8388607) rfl rfl (any_of HT_.out (by kernel_rfl)) (fun _ _ _ h => h) (Or.inl ⟨by rfl, ?_⟩) ?_ ?_
          rotate_left
          ·
           intro w'
           go_simp; with_reducible rfl
          rotate_left
          ·
           simp only [ap]
           rfl
          refine pure_ (i := 23) (N := some 87) (v := ?_) (a' := ?_) (bA 32 16777215) rfl rfl (any_of HT_.out (by kernel_rfl)) (fun _ _ _ h => h) (Or.inl ⟨by rfl, ?_⟩) ?_ ?_
          rotate_left
          ·
           intro w'
           go_simp; with_reducible rfl
          rotate_left
          ·
           simp only [ap]
           rfl
          refine pure_ (i := 24) (N := some 88) (v := undef) (a' := ?_) (bA 32 33554431) rfl rfl (any_of HT_.out (by kernel_rfl)) (fun _ _ _ h => h) (Or.inr ⟨by rfl, rfl⟩) ?_ ?_
          rotate_left
          ·
           simp only [ap]
           rfl
          refine pure_ (i := 25) (N := some 89) (v := undef) (a' := ?_) (bA 32 67108863) rfl rfl (any_of HT_.out (by kernel_rfl)) (fun _ _ _ h => h) (Or.inr ⟨by rfl, rfl⟩) ?_ ?_
          rotate_left
          ·
           simp only [ap]
           rfl
          refine pure_ (i := 26) (N := some 90) (v := undef) (a' := ?_) (bA 32 134217727) rfl rfl (any_of HT_.out (by kernel_rfl)) (fun _ _ _ h => h) (Or.inr ⟨by rfl, rfl⟩) ?_ ?_
          rotate_left
          ·
           simp only [ap]
           rfl
          refine pure_ (i := 27) (N := some 91) (v := undef) (a' := ?_) (bA 32 268435455) rfl rfl (any_of HT_.out (by kernel_rfl)) (fun _ _ _ h => h) (Or.inr ⟨by rfl, rfl⟩) ?_ ?_
          rotate_left
          ·
           simp only [ap]
           rfl
          refine pure_ (i := 28) (N := some 92) (v := undef) (a' := ?_) (bA 32 536870911) rfl rfl (any_of HT_.out (by kernel_rfl)) (fun _ _ _ h => h) (Or.inr ⟨by rfl, rfl⟩) ?_ ?_
          rotate_left
          ·
           simp only [ap]
           rfl
          refine pure_ (i := 29) (N := some 93) (v := undef) (a' := ?_) (bA 32 1073741823) rfl rfl (any_of HT_.out (by kernel_rfl)) (fun _ _ _ h => h) (Or.inr ⟨by rfl, rfl⟩) ?_ ?_
          rotate_left
          ·
           simp only [ap]
           rfl
          refine pure_ (i := 30) (N := some 94) (v := ?_) (a' := ?_) (bA 32 2147483647) rfl rfl (any_of HT_.out (by kernel_rfl)) (fun _ _ _ h => h) (Or.inl ⟨by rfl, ?_⟩) ?_ ?_
          rotate_left
          ·
           intro w'
           go_simp; with_reducible rfl
          rotate_left
          ·
           simp only [ap]
           rfl
          refine pure_ (i := 31) (N := some 95) (v := ?_) (a' := ?_) (bA 32 4294967295) rfl rfl (any_of HT_.out (by kernel_rfl)) (fun _ _ _ h => h) (Or.inl ⟨by rfl, ?_⟩) ?_ ?_
          rotate_left
          ·
           intro w'
           go_simp; with_reducible rfl
          rotate_left
          ·
           simp only [ap]
           rfl
          refine done_ (done_of HT_.out (by kernel_rfl)) ?_
          try go_wp2
          go_meet
          case rel => exact ⟨_, (true), (by first | rfl | (simp; done) | (simp [*]; done)), H', ⟨by have := HJ6.out; first | omega | exact Nat.le_refl _⟩, ⟨by refine bk ?_; exact BK191.out⟩, ⟨by refine bk ?_; exact BK192.out⟩, ⟨by refine bk ?_; exact BK218.out⟩, ⟨by refine bk ?_; exact BK221.out⟩, ⟨by refine bk ?_; exact BK232.out⟩, ⟨by repeat first | exact HB.out | refine bset ?_ ‹_› | apply below_alloc | apply pw_below_drewN | apply below_drew1⟩⟩
         ·
          rw [if_neg c126] at H
          have c126b0 : decide (a1_0 < 0) = false := decide_eq_false c126
          clear c126
          replace H := Option.bind_eq_some_iff.mp H
          obtain ⟨⟨t247, t248⟩, A1330, H⟩ := H
          (try dsimp only at H)
          have A133 := Aside0.mk A1330
          clear A1330
          replace H := Option.bind_eq_some_iff.mp H
          obtain ⟨⟨t249, t250⟩, A1340, H⟩ := H
          (try dsimp only at H)
          have A134 := Aside0.mk A1340
          clear A1340
          replace H := Option.bind_eq_some_iff.mp H
          obtain ⟨t251, A1350, H⟩ := H
          (try dsimp only at H)
          have A135 := Aside0.mk A1350
          clear A1350
          have H' := Aside0.mk H
          clear H
          try go_wp2
          have n0_ : Aside0 (((w77.setCell ⟨gb232, 0, none⟩ (.int .i64 t230)).setCell ⟨gb232, 1, none⟩ (.int .i64 t231)).heap[gb191]? = some (.cells #[.int .i64 a0_0, .int .i64 a0_1] 24 (0, 0))) := ⟨by refine bk ?_; refine blk_far ?_ NB191_232.out _; refine bk ?_; refine blk_far ?_ NB191_232.out _; refine bk ?_; exact BK191.out⟩
          have n1_ : Aside0 (((w77.setCell ⟨gb232, 0, none⟩ (.int .i64 t230)).setCell ⟨gb232, 1, none⟩ (.int .i64 t231)).heap[gb192]? = some (.cells #[.int .i64 a1_0, .int .i64 a1_1] 24 (0, 0))) := ⟨by refine bk ?_; refine blk_far ?_ NB192_232.out _; refine bk ?_; refine blk_far ?_ NB192_232.out _; refine bk ?_; exact BK192.out⟩
          have n2_ : Aside0 (((w77.setCell ⟨gb232, 0, none⟩ (.int .i64 t230)).setCell ⟨gb232, 1, none⟩ (.int .i64 t231)).heap[gb218]? = some (.cells #[.int .i64 t216, .int .i64 t217] 24 (0, 0))) := ⟨by refine bk ?_; refine blk_far ?_ NB218_232.out _; refine bk ?_; refine blk_far ?_ NB218_232.out _; refine bk ?_; exact BK218.out⟩
          have n3_ : Aside0 (((w77.setCell ⟨gb232, 0, none⟩ (.int .i64 t230)).setCell ⟨gb232, 1, none⟩ (.int .i64 t231)).heap[gb221]? = some (.cells #[.int .i64 t219, .int .i64 t220] 24 (0, 0))) := ⟨by refine bk ?_; refine blk_far ?_ NB221_232.out _; refine bk ?_; refine blk_far ?_ NB221_232.out _; refine bk ?_; exact BK221.out⟩
          have n4_ : Aside0 (((w77.setCell ⟨gb232, 0, none⟩ (.int .i64 t230)).setCell ⟨gb232, 1, none⟩ (.int .i64 t231)).heap[gb232]? = some (.cells #[.int .i64 t230, .int .i64 t231] 24 (0, 0))) := ⟨by refine bk ?_; refine blk_put (cs := #[.int .i64 t230, .int .i64 0]) ?_ 1 _ rfl; refine bk ?_; refine blk_put (cs := #[.int .i64 0, .int .i64 0]) ?_ 0 _ rfl; refine bk ?_; exact BK232.out⟩
          have n5_ : Aside0 (Below w.heap.size w ((w77.setCell ⟨gb232, 0, none⟩ (.int .i64 t230)).setCell ⟨gb232, 1, none⟩ (.int .i64 t231))) := ⟨by repeat first | exact HB.out | refine bset ?_ ‹_› | apply below_alloc | apply pw_below_drewN | apply below_drew1⟩
          (try clear BK191); (try clear BK192); (try clear BK218); (try clear BK221); (try clear BK232); (try clear HB)
          generalize ((w77.setCell ⟨gb232, 0, none⟩ (.int .i64 t230)).setCell ⟨gb232, 1, none⟩ (.int .i64 t231)) = w136 at n0_ n1_ n2_ n3_ n4_ n5_ ⊢
          have BK191 := n0_
          have BK192 := n1_
          have BK218 := n2_
          have BK221 := n3_
          have BK232 := n4_
          have HB := n5_
          clear n0_ n1_ n2_ n3_ n4_ n5_
          replace BK191 := kd BK191
          replace BK192 := kd BK192
          replace BK218 := kd BK218
          replace BK221 := kd BK221
          replace BK232 := kd BK232
          replace HB := Aside0.mk (below_drew1 HB.out)
          refine start_ (n := 32) (S := fun w' => w'.cell? ⟨gb232, 0, none⟩ = some (.int .i64 t230) ∧ w'.cell? ⟨gb232, 1, none⟩ = some (.int .i64 t231) ∧ w'.cell? ⟨gb192, 0, none⟩ = some (.int .i64 a1_0) ∧ w'.cell? ⟨gb192, 1, none⟩ = some (.int .i64 a1_1)) (ds := []) (bA 32 0) (by kernel_rfl) rfl rfl ⟨(blk_cell BK232.out 0).trans rfl, (blk_cell BK232.out 1).trans rfl, (blk_cell BK192.out 0).trans rfl, (blk_cell BK192.out 1).trans rfl⟩ (fun hHeld => ?_); refine with_tabW serinettelaw01_NumberRounds.tab8 serinettelaw01_NumberRounds.bits8 (fun HT_ HW_ => ?_)
          generalize w136.drew = w137 at BK191 BK192 BK218 BK221 BK232 HB hHeld ⊢
          refine take_ (i := 0) (N := some 64) (v := ?_) (a' := ?_) (bA 32 1) rfl rfl (take_ofW HT_.out HW_.out (by kernel_rfl)) (fun _ _ _ h => h) (Or.inl ⟨by rfl, ?_⟩) hHeld ?_ ?_
          rotate_left
          ·
           rintro w' ⟨s0, s1, s2, s3⟩
           go_simp; with_reducible rfl
          rotate_left
          ·
           simp only [ap]
           rfl
          refine take_ (i := 1) (N := some 65) (v := ?_) (a' := ?_) (bA 32 3) rfl rfl (take_ofW HT_.out HW_.out (by kernel_rfl)) (fun _ _ _ h => h) (Or.inl ⟨by rfl, ?_⟩) hHeld ?_ ?_
          rotate_left
          ·
           rintro w' ⟨s0, s1, s2, s3⟩
           go_simp; with_reducible rfl
          rotate_left
          ·
           simp only [ap]
           rfl
          refine one_ (i := 2) (N := some 66) (bA 32 7) rfl rfl (one_of HT_.out (by kernel_rfl)) (by decide) (fun K hK => ?_)
          refine Kd.R_lit_step k24 _ 24 ?hg (N := 66) ?hd (xs := ([(⟨t230, t231⟩ : S24), (⟨a1_0, a1_1⟩ : S24)] : List (S24))) (inner := [.int .i64 t230, .int .i64 t231, .int .i64 a1_0, .int .i64 a1_1]) (ok := fun _ => True) (okp := fun _ => True) ?hr ?hp (fun _ hk => hk) trivial (Below.refl _ _) (Nat.le_refl _) (by simp) ?_; (case hd => rfl); (case hg => rfl); (case hr => first | (go_simp; done) | (go_simp; rfl)); (case hp => exact (Reps.c2 (show Kd.M k24 _ _ _ (⟨t230, t231⟩ : S24) [.int .i64 t230, .int .i64 t231] from (k24_mkM _ _ _ (⟨t230, t231⟩ : S24) )) (Reps.c2 (show Kd.M k24 _ _ _ (⟨a1_0, a1_1⟩ : S24) [.int .i64 a1_0, .int .i64 a1_1] from (k24_mkM _ _ _ (⟨a1_0, a1_1⟩ : S24) )) (Reps.none _ _))))
          intro v234 w138 ho139 hb hg_ hnew_
          clear hg_ hnew_
          (first | rw [← Ny233.out] at ho139 | (simp only [Int.reduceToNat] at ho139; rw [← Ny233.out] at ho139))
          have HO235 := Aside0.mk (Kd.R_lower (Kd.R_newB (Kd.R_newB (Kd.R_newB (Kd.R_newB (Kd.R_newB ho139 (g := gb191) (o := .cells #[.int .i64 a0_0, .int .i64 a0_1] 24 (0, 0)) (bk BK191.out)) (g := gb192) (o := .cells #[.int .i64 a1_0, .int .i64 a1_1] 24 (0, 0)) (bk BK192.out)) (g := gb218) (o := .cells #[.int .i64 t216, .int .i64 t217] 24 (0, 0)) (bk BK218.out)) (g := gb221) (o := .cells #[.int .i64 t219, .int .i64 t220] 24 (0, 0)) (bk BK221.out)) (g := gb232) (o := .cells #[.int .i64 t230, .int .i64 t231] 24 (0, 0)) (bk BK232.out)) (below_size (by repeat first | (with_reducible exact HB.out) | refine bl1 ?_ | (with_reducible refine bset ?_ ‹_›) | exact HB.out)))
          replace BK191 := kb BK191 hb
          replace BK192 := kb BK192 hb
          replace BK218 := kb BK218 hb
          replace BK221 := kb BK221 hb
          replace BK232 := kb BK232 hb
          replace HB := hs' HB (by repeat first | (with_reducible exact HB.out) | refine bl1 ?_ | (with_reducible refine bset ?_ ‹_›) | exact HB.out) hb
          clear hb ho139
          obtain ⟨Ao140, co140, eo140⟩ := Kd.R_slice HO235.out
          (first | subst eo140 | (injection eo140 with f1_ f2_ f3_; have f4_ := f1_.symm; have f5_ := f3_.symm; clear f1_ f2_ f3_; subst f4_; subst f5_))
          refine hK.out _ _ ⟨(blk_cell BK232.out 0).trans rfl, (blk_cell BK232.out 1).trans rfl, (blk_cell BK192.out 0).trans rfl, (blk_cell BK192.out 1).trans rfl⟩ (fun hHeld => ?_)
          clear hK K
          refine norm_ (a' := ?_) ?_ ?_
          rotate_left
          ·
           show Act.put _ (some 66) _ = _
           simp only [ap]; rfl
          refine one_ (i := 3) (N := some 67) (bA 32 15) rfl rfl (one_of HT_.out (by kernel_rfl)) (by decide) (fun K hK => ?_)
          refine goes_ Try.func14 (by kernel_rfl) rfl #[.slice Ao140 y233.length co140] (by rfl) rfl rfl (by (try simp only [mp]); first | done | rfl | (simp only [ld]; rfl)) ?_
          with_reducible refine (serinettelaw01_numbers.calls kj6 _ _ y233 true _ ?side1 ?side2 A83.out).mono ?_
          (case side1 => repeat (first | exact (Kd.R_reads' HO235.out).2.2 | (with_reducible refine Kd.C_alloc ?_ _) | (with_reducible refine Kd.C_drewN ?_ _) | (with_reducible refine Kd.C_drew ?_)))
          (case side2 => exact (Kd.R_reads' HO235.out).2.1)
          rintro e w141 ⟨rfl, hb⟩
          refine ⟨_, rfl, ?_⟩
          replace HO235 := Aside0.mk (Kd.R_below (by (with_reducible repeat (first | apply Kd.R_alloc | apply Kd.R_drewN | apply Kd.R_drew)); exact HO235.out) hb)
          replace BK191 := kb BK191 hb
          replace BK192 := kb BK192 hb
          replace BK218 := kb BK218 hb
          replace BK221 := kb BK221 hb
          replace BK232 := kb BK232 hb
          replace HB := hs' HB (by repeat first | (with_reducible exact HB.out) | refine bl1 ?_ | (with_reducible refine bset ?_ ‹_›) | exact HB.out) hb
          (try clear hb); (try clear hb2); (try clear hk); (try clear hi)
          refine hK.out _ _ ⟨(blk_cell BK232.out 0).trans rfl, (blk_cell BK232.out 1).trans rfl, (blk_cell BK192.out 0).trans rfl, (blk_cell BK192.out 1).trans rfl⟩ (fun hHeld => ?_)
          clear hK K
          refine norm_ (a' := ?_) ?_ ?_
          rotate_left
          ·
           show Act.put _ (some 67) _ = _
           simp only [ap]; rfl
          refine pure_ (i := 4) (N := some 68) (v := ?_) (a' := ?_) (bA 32 31) rfl rfl (any_of HT_.out (by kernel_rfl)) (fun _ _ _ h => h) (Or.inl ⟨by rfl, ?_⟩) ?_ ?_
          rotate_left
          ·
           intro w'
           go_simp; with_reducible rfl
          rotate_left
          ·
           simp only [ap]
           rfl
          refine pure_ (i := 5) (N := some 69) (v := ?_) (a' := ?_) (bA 32 63) rfl rfl (any_of HT_.out (by kernel_rfl)) (fun _ _ _ h => h) (Or.inl ⟨by rfl, ?_⟩) ?_ ?_
          rotate_left
          ·
           intro w'
           go_simp; with_reducible rfl
          rotate_left
          ·
           simp only [ap]
           rfl
          refine take_ (i := 6) (N := some 70) (v := ?_) (a' := ?_) (bA 32 127) rfl rfl (take_ofW HT_.out HW_.out (by kernel_rfl)) (fun _ _ _ h => h) (Or.inl ⟨by rfl, ?_⟩) hHeld ?_ ?_
          rotate_left
          ·
           rintro w' ⟨s0, s1, s2, s3⟩
           go_simp; with_reducible rfl
          rotate_left
          ·
           simp only [ap]
           rfl
          refine pure_ (i := 7) (N := some 71) (v := ?_) (a' := ?_) (bA 32 255) rfl rfl (any_of HT_.out (by kernel_rfl)) (fun _ _ _ h => h) (Or.inl ⟨by rfl, ?_⟩) ?_ ?_
          rotate_left
          ·
           intro w'
           go_simp; with_reducible rfl
          rotate_left
          ·
           simp only [ap]
           rfl
          refine pure_ (i := 8) (N := some 72) (v := ?_) (a' := ?_) (bA 32 511) rfl rfl (any_of HT_.out (by kernel_rfl)) (fun _ _ _ h => h) (Or.inl ⟨by rfl, ?_⟩) ?_ ?_
          rotate_left
          ·
           intro w'
           go_simp; with_reducible rfl
          rotate_left
          ·
           simp only [ap]
           rfl
          refine pure_ (i := 9) (N := some 73) (v := undef) (a' := ?_) (bA 32 1023) rfl rfl (any_of HT_.out (by kernel_rfl)) (fun _ _ _ h => h) (Or.inr ⟨by rfl, rfl⟩) ?_ ?_
          rotate_left
          ·
           simp only [ap]
           rfl
          refine pure_ (i := 10) (N := some 74) (v := undef) (a' := ?_) (bA 32 2047) rfl rfl (any_of HT_.out (by kernel_rfl)) (fun _ _ _ h => h) (Or.inr ⟨by rfl, rfl⟩) ?_ ?_
          rotate_left
          ·
           simp only [ap]
           rfl
          refine pure_ (i := 11) (N := some 75) (v := undef) (a' := ?_) (bA 32 4095) rfl rfl (any_of HT_.out (by kernel_rfl)) (fun _ _ _ h => h) (Or.inr ⟨by rfl, rfl⟩) ?_ ?_
          rotate_left
          ·
           simp only [ap]
           rfl
          refine pure_ (i := 12) (N := some 76) (v := ?_) (a' := ?_) (bA 32 8191) rfl rfl (any_of HT_.out (by kernel_rfl)) (fun _ _ _ h => h) (Or.inl ⟨by rfl, ?_⟩) ?_ ?_
          rotate_left
          ·
           intro w'
           go_simp; with_reducible rfl
          rotate_left
          ·
           simp only [ap]
           rfl
          refine pure_ (i := 13) (N := some 77) (v := ?_) (a' := ?_) (bA 32 16383) rfl rfl (any_of HT_.out (by kernel_rfl)) (fun _ _ _ h => h) (Or.inl ⟨by rfl, ?_⟩) ?_ ?_
          rotate_left
          ·
           intro w'
           go_simp; with_reducible rfl
          rotate_left
          ·
           simp only [ap]
           rfl
          refine pure_ (i := 14) (N := some 78) (v := ?_) (a' := ?_) (bA 32 32767) rfl rfl (any_of HT_.out (by kernel_rfl)) (fun _ _ _ h => h) (Or.inl ⟨by rfl, ?_⟩) ?_ ?_
          rotate_left
          ·
           intro w'
           go_simp; with_reducible rfl
          rotate_left
          ·
           simp only [ap]
           rfl
          refine take_ (i := 15) (N := some 79) (v := ?_) (a' := ?_) (bA 32 65535) rfl rfl (take_ofW HT_.out HW_.out (by kernel_rfl)) (fun _ _ _ h => h) (Or.inl ⟨by rfl, ?_⟩) hHeld ?_ ?_
          rotate_left
          ·
           rintro w' ⟨s0, s1, s2, s3⟩
           go_simp; with_reducible rfl
          rotate_left
          ·
           simp only [ap]
           rfl
          refine pure_ (i := 16) (N := some 80) (v := ?_) (a' := ?_) (bA 32 131071) rfl rfl (any_of HT_.out (by kernel_rfl)) (fun _ _ _ h => h) (Or.inl ⟨by rfl, ?_⟩) ?_ ?_
          rotate_left
          ·
           intro w'
           go_simp; with_reducible rfl
          rotate_left
          ·
           simp only [ap]
           rfl
          refine pure_ (i := 17) (N := some 81) (v := ?_) (a' := ?_) (bA 32 262143) rfl rfl (any_of HT_.out (by kernel_rfl)) (fun _ _ _ h => h) (Or.inl ⟨by rfl, ?_⟩) ?_ ?_
          rotate_left
          ·
           intro w'
           go_simp; with_reducible rfl
          rotate_left
          ·
           simp only [ap]
           rfl
          refine pure_ (i := 18) (N := some 82) (v := ?_) (a' := ?_) (bA 32 524287) rfl rfl (any_of HT_.out (by kernel_rfl)) (fun _ _ _ h => h) (Or.inl ⟨by rfl, ?_⟩) ?_ ?_
          rotate_left
          ·
           intro w'
           go_simp; with_reducible rfl
          rotate_left
          ·
           simp only [ap]
           rfl
          refine take_ (i := 19) (N := some 83) (v := ?_) (a' := ?_) (bA 32 1048575) rfl rfl (take_ofW HT_.out HW_.out (by kernel_rfl)) (fun _ _ _ h => h) (Or.inl ⟨by rfl, ?_⟩) hHeld ?_ ?_
          rotate_left
          ·
           rintro w' ⟨s0, s1, s2, s3⟩
           go_simp; with_reducible rfl
          rotate_left
          ·
           simp only [ap]
           rfl
          refine pure_ (i := 20) (N := some 84) (v := ?_) (a' := ?_) (bA 32 2097151) rfl rfl (any_of HT_.out (by kernel_rfl)) (fun _ _ _ h => h) (Or.inl ⟨by rfl, ?_⟩) ?_ ?_
          rotate_left
          ·
           intro w'
           go_simp; with_reducible rfl
          rotate_left
          ·
           simp only [ap]
           rfl
          refine pure_ (i := 21) (N := some 85) (v := ?_) (a' := ?_) (bA 32 4194303) rfl rfl (any_of HT_.out (by kernel_rfl)) (fun _ _ _ h => h) (Or.inl ⟨by rfl, ?_⟩) ?_ ?_
          rotate_left
          ·
           intro w'
           go_simp; with_reducible rfl
          rotate_left
          ·
           simp only [ap]
           rfl
          refine pure_ (i := 22) (N := some 86) (v := ?_) (a' := ?_) (bA 32 8388607) rfl rfl (any_of HT_.out (by kernel_rfl)) (fun _ _ _ h => h) (Or.inl ⟨by rfl, ?_⟩) ?_ ?_
          rotate_left
          ·
           intro w'
           go_simp; with_reducible rfl
          rotate_left
          ·
           simp only [ap]
           rfl
          refine pure_ (i := 23) (N := some 87) (v := ?_) (a' := ?_) (bA 32 16777215) rfl rfl (any_of HT_.out (by kernel_rfl)) (fun _ _ _ h => h) (Or.inl ⟨by rfl, ?_⟩) ?_ ?_
          rotate_left
          ·
           intro w'
           go_simp; with_reducible rfl
          rotate_left
          ·
           simp only [ap]
           rfl
          refine take_ (i := 24) (N := some 88) (v := ?_) (a' := ?_) (bA 32 33554431) rfl rfl (take_ofW HT_.out HW_.out (by kernel_rfl)) (fun _ _ _ h => h) (Or.inl ⟨by rfl, ?_⟩) hHeld ?_ ?_
          rotate_left
          ·
           rintro w' ⟨s0, s1, s2, s3⟩
           go_simp; with_reducible rfl
          rotate_left
          ·
           simp only [ap]
           rfl
          refine take_ (i := 26) (N := some 90) (v := ?_) (a' := ?_) (bA 32 100663295) rfl rfl (take_ofW HT_.out HW_.out (by kernel_rfl)) (fun _ _ _ h => h) (Or.inl ⟨by rfl, ?_⟩) hHeld ?_ ?_
          rotate_left
          ·
           rintro w' ⟨s0, s1, s2, s3⟩
           go_simp; with_reducible rfl
          rotate_left
          ·
           simp only [ap]
           rfl
          refine one_ (i := 25) (N := some 89) (bA 32 134217727) rfl rfl (one_of HT_.out (by kernel_rfl)) (by decide) (fun K hK => ?_)
          refine goes_ Try.func31 (by kernel_rfl) rfl #[.agg #[.int .i64 t230, .int .i64 t231]] (by rfl) rfl rfl (by (try simp only [mp]); first | done | rfl | (simp only [ld]; rfl)) ?_
          with_reducible refine (ratio_Abs.calls kj6 t230 t231 t247 t248 _ A133.out).mono ?_
          rintro e w142 ⟨rfl, hb⟩
          refine ⟨_, rfl, ?_⟩
          replace HO235 := Aside0.mk (Kd.R_below (by (with_reducible repeat (first | apply Kd.R_alloc | apply Kd.R_drewN | apply Kd.R_drew)); exact HO235.out) hb)
          replace BK191 := kb BK191 hb
          replace BK192 := kb BK192 hb
          replace BK218 := kb BK218 hb
          replace BK221 := kb BK221 hb
          replace BK232 := kb BK232 hb
          replace HB := hs' HB (by repeat first | (with_reducible exact HB.out) | refine bl1 ?_ | (with_reducible refine bset ?_ ‹_›) | exact HB.out) hb
          (try clear hb); (try clear hb2); (try clear hk); (try clear hi)
          refine hK.out _ _ ⟨(blk_cell BK232.out 0).trans rfl, (blk_cell BK232.out 1).trans rfl, (blk_cell BK192.out 0).trans rfl, (blk_cell BK192.out 1).trans rfl⟩ (fun hHeld => ?_)
          clear hK K
          refine norm_ (a' := ?_) ?_ ?_
          rotate_left
          ·
           show Act.put _ (some 89) _ = _
           simp only [ap]; rfl
          refine one_ (i := 27) (N := some 91) (bA 32 268435455) rfl rfl (one_of HT_.out (by kernel_rfl)) (by decide) (fun K hK => ?_)
          refine goes_ Try.func31 (by kernel_rfl) rfl #[.agg #[.int .i64 a1_0, .int .i64 a1_1]] (by rfl) rfl rfl (by (try simp only [mp]); first | done | rfl | (simp only [ld]; rfl)) ?_
          with_reducible refine (ratio_Abs.calls kj6 a1_0 a1_1 t249 t250 _ A134.out).mono ?_
          rintro e w143 ⟨rfl, hb⟩
          refine ⟨_, rfl, ?_⟩
          replace HO235 := Aside0.mk (Kd.R_below (by (with_reducible repeat (first | apply Kd.R_alloc | apply Kd.R_drewN | apply Kd.R_drew)); exact HO235.out) hb)
          replace BK191 := kb BK191 hb
          replace BK192 := kb BK192 hb
          replace BK218 := kb BK218 hb
          replace BK221 := kb BK221 hb
          replace BK232 := kb BK232 hb
          replace HB := hs' HB (by repeat first | (with_reducible exact HB.out) | refine bl1 ?_ | (with_reducible refine bset ?_ ‹_›) | exact HB.out) hb
          (try clear hb); (try clear hb2); (try clear hk); (try clear hi)
          refine hK.out _ _ ⟨(blk_cell BK232.out 0).trans rfl, (blk_cell BK232.out 1).trans rfl, (blk_cell BK192.out 0).trans rfl, (blk_cell BK192.out 1).trans rfl⟩ (fun hHeld => ?_)
          clear hK K
          refine norm_ (a' := ?_) ?_ ?_
          rotate_left
          ·
           show Act.put _ (some 91) _ = _
           simp only [ap]; rfl
          refine one_ (i := 28) (N := some 92) (bA 32 536870911) rfl rfl (one_of HT_.out (by kernel_rfl)) (by decide) (fun K hK => ?_)
          refine goes_ Try.func19 (by kernel_rfl) rfl #[.agg #[.int .i64 t247, .int .i64 t248], .agg #[.int .i64 t249, .int .i64 t250]] (by rfl) rfl rfl (by (try simp only [mp]); first | done | rfl | (simp only [ld]; rfl)) ?_
          with_reducible refine (ratio_Cmp.calls kj6 t247 t248 t249 t250 t251 _ A135.out).mono ?_
          rintro e w144 ⟨rfl, hb⟩
          refine ⟨_, rfl, ?_⟩
          replace HO235 := Aside0.mk (Kd.R_below (by (with_reducible repeat (first | apply Kd.R_alloc | apply Kd.R_drewN | apply Kd.R_drew)); exact HO235.out) hb)
          replace BK191 := kb BK191 hb
          replace BK192 := kb BK192 hb
          replace BK218 := kb BK218 hb
          replace BK221 := kb BK221 hb
          replace BK232 := kb BK232 hb
          replace HB := hs' HB (by repeat first | (with_reducible exact HB.out) | refine bl1 ?_ | (with_reducible refine bset ?_ ‹_›) | exact HB.out) hb
          (try clear hb); (try clear hb2); (try clear hk); (try clear hi)
          refine hK.out _ _ ⟨(blk_cell BK232.out 0).trans rfl, (blk_cell BK232.out 1).trans rfl, (blk_cell BK192.out 0).trans rfl, (blk_cell BK192.out 1).trans rfl⟩ (fun hHeld => ?_)
          clear hK K
          refine norm_ (a' := ?_) ?_ ?_
          rotate_left
          ·
           show Act.put _ (some 92) _ = _
           simp only [ap]; rfl
          refine pure_ (i := 29) (N := some 93) (v := ?_) (a' := ?_) (bA 32 1073741823) rfl rfl (any_of HT_.out (by kernel_rfl)) (fun _ _ _ h => h) (Or.inl ⟨by rfl, ?_⟩) ?_ ?_
          rotate_left
          ·
           intro w'
           go_simp; with_reducible rfl
          rotate_left
          ·
           simp only [ap]
           rfl
          refine pure_ (i := 30) (N := some 94) (v := ?_) (a' := ?_) (bA 32 2147483647) rfl rfl (any_of HT_.out (by kernel_rfl)) (fun _ _ _ h => h) (Or.inl ⟨by rfl, ?_⟩) ?_ ?_
          rotate_left
          ·
           intro w'
           go_simp; with_reducible rfl
          rotate_left
          ·
           simp only [ap]
           rfl
          refine pure_ (i := 31) (N := some 95) (v := ?_) (a' := ?_) (bA 32 4294967295) rfl rfl (any_of HT_.out (by kernel_rfl)) (fun _ _ _ h => h) (Or.inl ⟨by rfl, ?_⟩) ?_ ?_
          rotate_left
          ·
           intro w'
           go_simp; with_reducible rfl
          rotate_left
          ·
           simp only [ap]
           rfl
          refine done_ (done_of HT_.out (by kernel_rfl)) ?_
          try go_wp2
          go_meet
          case rel => exact ⟨_, (decide (t251 ≥ 0)), (by first | rfl | (simp; done) | (simp [*]; done)), H', ⟨by have := HJ6.out; first | omega | exact Nat.le_refl _⟩, ⟨by refine bk ?_; exact BK191.out⟩, ⟨by refine bk ?_; exact BK192.out⟩, ⟨by refine bk ?_; exact BK218.out⟩, ⟨by refine bk ?_; exact BK221.out⟩, ⟨by refine bk ?_; exact BK232.out⟩, ⟨by repeat first | exact HB.out | refine bset ?_ ‹_› | apply below_alloc | apply pw_below_drewN | apply below_drew1⟩⟩
        ·
         rw [if_neg c125] at H
         have c125b0 : decide (0 < t230) = false := decide_eq_false c125
         clear c125
         replace H := Option.bind_eq_some_iff.mp H
         obtain ⟨⟨t252, t253⟩, A1450, H⟩ := H
         (try dsimp only at H)
         have A145 := Aside0.mk A1450
         clear A1450
         replace H := Option.bind_eq_some_iff.mp H
         obtain ⟨⟨t254, t255⟩, A1460, H⟩ := H
         (try dsimp only at H)
         have A146 := Aside0.mk A1460
         clear A1460
         replace H := Option.bind_eq_some_iff.mp H
         obtain ⟨t256, A1470, H⟩ := H
         (try dsimp only at H)
         have A147 := Aside0.mk A1470
         clear A1470
         have H' := Aside0.mk H
         clear H
         try go_wp2
         have n0_ : Aside0 (((w77.setCell ⟨gb232, 0, none⟩ (.int .i64 t230)).setCell ⟨gb232, 1, none⟩ (.int .i64 t231)).heap[gb191]? = some (.cells #[.int .i64 a0_0, .int .i64 a0_1] 24 (0, 0))) := ⟨by refine bk ?_; refine blk_far ?_ NB191_232.out _; refine bk ?_; refine blk_far ?_ NB191_232.out _; refine bk ?_; exact BK191.out⟩
         have n1_ : Aside0 (((w77.setCell ⟨gb232, 0, none⟩ (.int .i64 t230)).setCell ⟨gb232, 1, none⟩ (.int .i64 t231)).heap[gb192]? = some (.cells #[.int .i64 a1_0, .int .i64 a1_1] 24 (0, 0))) := ⟨by refine bk ?_; refine blk_far ?_ NB192_232.out _; refine bk ?_; refine blk_far ?_ NB192_232.out _; refine bk ?_; exact BK192.out⟩
         have n2_ : Aside0 (((w77.setCell ⟨gb232, 0, none⟩ (.int .i64 t230)).setCell ⟨gb232, 1, none⟩ (.int .i64 t231)).heap[gb218]? = some (.cells #[.int .i64 t216, .int .i64 t217] 24 (0, 0))) := ⟨by refine bk ?_; refine blk_far ?_ NB218_232.out _; refine bk ?_; refine blk_far ?_ NB218_232.out _; refine bk ?_; exact BK218.out⟩
         have n3_ : Aside0 (((w77.setCell ⟨gb232, 0, none⟩ (.int .i64 t230)).setCell ⟨gb232, 1, none⟩ (.int .i64 t231)).heap[gb221]? = some (.cells #[.int .i64 t219, .int .i64 t220] 24 (0, 0))) := ⟨by refine bk ?_; refine blk_far ?_ NB221_232.out _; refine bk ?_; refine blk_far ?_ NB221_232.out _; refine bk ?_; exact BK221.out⟩
         have n4_ : Aside0 (((w77.setCell ⟨gb232, 0, none⟩ (.int .i64 t230)).setCell ⟨gb232, 1, none⟩ (.int .i64 t231)).heap[gb232]? = some (.cells #[.int .i64 t230, .int .i64 t231] 24 (0, 0))) := ⟨by refine bk ?_; refine blk_put (cs := #[.int .i64 t230, .int .i64 0]) ?_ 1 _ rfl; refine bk ?_; refine blk_put (cs := #[.int .i64 0, .int .i64 0]) ?_ 0 _ rfl; refine bk ?_; exact BK232.out⟩
         have n5_ : Aside0 (Below w.heap.size w ((w77.setCell ⟨gb232, 0, none⟩ (.int .i64 t230)).setCell ⟨gb232, 1, none⟩ (.int .i64 t231))) := ⟨by repeat first | exact HB.out | refine bset ?_ ‹_› | apply below_alloc | apply pw_below_drewN | apply below_drew1⟩
         (try clear BK191); (try clear BK192); (try clear BK218); (try clear BK221); (try clear BK232); (try clear HB)
         generalize ((w77.setCell ⟨gb232, 0, none⟩ (.int .i64 t230)).setCell ⟨gb232, 1, none⟩ (.int .i64 t231)) = w148 at n0_ n1_ n2_ n3_ n4_ n5_ ⊢
         have BK191 := n0_
         have BK192 := n1_
         have BK218 := n2_
         have BK221 := n3_
         have BK232 := n4_
         have HB := n5_
         clear n0_ n1_ n2_ n3_ n4_ n5_
         replace BK191 := kd BK191
         replace BK192 := kd BK192
         replace BK218 := kd BK218
         replace BK221 := kd BK221
         replace BK232 := kd BK232
         replace HB := Aside0.mk (below_drew1 HB.out)
         refine start_ (n := 32) (S := fun w' => w'.cell? ⟨gb232, 0, none⟩ = some (.int .i64 t230) ∧ w'.cell? ⟨gb232, 1, none⟩ = some (.int .i64 t231) ∧ w'.cell? ⟨gb192, 0, none⟩ = some (.int .i64 a1_0) ∧ w'.cell? ⟨gb192, 1, none⟩ = some (.int .i64 a1_1)) (ds := []) (bA 32 0) (by kernel_rfl) rfl rfl ⟨(blk_cell BK232.out 0).trans rfl, (blk_cell BK232.out 1).trans rfl, (blk_cell BK192.out 0).trans rfl, (blk_cell BK192.out 1).trans rfl⟩ (fun hHeld => ?_); refine with_tabW serinettelaw01_NumberRounds.tab8 serinettelaw01_NumberRounds.bits8 (fun HT_ HW_ => ?_)
         generalize w148.drew = w149 at BK191 BK192 BK218 BK221 BK232 HB hHeld ⊢
         refine take_ (i := 0) (N := some 64) (v := ?_) (a' := ?_) (bA 32 1) rfl rfl (take_ofW HT_.out HW_.out (by kernel_rfl)) (fun _ _ _ h => h) (Or.inl ⟨by rfl, ?_⟩) hHeld ?_ ?_
         rotate_left
         ·
          rintro w' ⟨s0, s1, s2, s3⟩
          go_simp; with_reducible rfl
         rotate_left
         ·
          simp only [ap]
          rfl
         refine take_ (i := 1) (N := some 65) (v := ?_) (a' := ?_) (bA 32 3) rfl rfl (take_ofW HT_.out HW_.out (by kernel_rfl)) (fun _ _ _ h => h) (Or.inl ⟨by rfl, ?_⟩) hHeld ?_ ?_
         rotate_left
         ·
          rintro w' ⟨s0, s1, s2, s3⟩
          go_simp; with_reducible rfl
         rotate_left
         ·
          simp only [ap]
          rfl
         refine one_ (i := 2) (N := some 66) (bA 32 7) rfl rfl (one_of HT_.out (by kernel_rfl)) (by decide) (fun K hK => ?_)
         refine Kd.R_lit_step k24 _ 24 ?hg (N := 66) ?hd (xs := ([(⟨t230, t231⟩ : S24), (⟨a1_0, a1_1⟩ : S24)] : List (S24))) (inner := [.int .i64 t230, .int .i64 t231, .int .i64 a1_0, .int .i64 a1_1]) (ok := fun _ => True) (okp := fun _ => True) ?hr ?hp (fun _ hk => hk) trivial (Below.refl _ _) (Nat.le_refl _) (by simp) ?_; (case hd => rfl); (case hg => rfl); (case hr => first | (go_simp; done) | (go_simp; rfl)); (case hp => exact (Reps.c2 (show Kd.M k24 _ _ _ (⟨t230, t231⟩ : S24) [.int .i64 t230, .int .i64 t231] from (k24_mkM _ _ _ (⟨t230, t231⟩ : S24) )) (Reps.c2 (show Kd.M k24 _ _ _ (⟨a1_0, a1_1⟩ : S24) [.int .i64 a1_0, .int .i64 a1_1] from (k24_mkM _ _ _ (⟨a1_0, a1_1⟩ : S24) )) (Reps.none _ _))))
         intro v234 w150 ho151 hb hg_ hnew_
         clear hg_ hnew_
         (first | rw [← Ny233.out] at ho151 | (simp only [Int.reduceToNat] at ho151; rw [← Ny233.out] at ho151))
         have HO235 := Aside0.mk (Kd.R_lower (Kd.R_newB (Kd.R_newB (Kd.R_newB (Kd.R_newB (Kd.R_newB ho151 (g := gb191) (o := .cells #[.int .i64 a0_0, .int .i64 a0_1] 24 (0, 0)) (bk BK191.out)) (g := gb192) (o := .cells #[.int .i64 a1_0, .int .i64 a1_1] 24 (0, 0)) (bk BK192.out)) (g := gb218) (o := .cells #[.int .i64 t216, .int .i64 t217] 24 (0, 0)) (bk BK218.out)) (g := gb221) (o := .cells #[.int .i64 t219, .int .i64 t220] 24 (0, 0)) (bk BK221.out)) (g := gb232) (o := .cells #[.int .i64 t230, .int .i64 t231] 24 (0, 0)) (bk BK232.out)) (below_size (by repeat first | (with_reducible exact HB.out) | refine bl1 ?_ | (with_reducible refine bset ?_ ‹_›) | exact HB.out)))
         replace BK191 := kb BK191 hb
         replace BK192 := kb BK192 hb
         replace BK218 := kb BK218 hb
         replace BK221 := kb BK221 hb
         replace BK232 := kb BK232 hb
         replace HB := hs' HB (by repeat first | (with_reducible exact HB.out) | refine bl1 ?_ | (with_reducible refine bset ?_ ‹_›) | exact HB.out) hb
         clear hb ho151
         obtain ⟨Ao152, co152, eo152⟩ := Kd.R_slice HO235.out
         (first | subst eo152 | (injection eo152 with f1_ f2_ f3_; have f4_ := f1_.symm; have f5_ := f3_.symm; clear f1_ f2_ f3_; subst f4_; subst f5_))
         refine hK.out _ _ ⟨(blk_cell BK232.out 0).trans rfl, (blk_cell BK232.out 1).trans rfl, (blk_cell BK192.out 0).trans rfl, (blk_cell BK192.out 1).trans rfl⟩ (fun hHeld => ?_)
         clear hK K
         refine norm_ (a' := ?_) ?_ ?_
         rotate_left
         ·
          show Act.put _ (some 66) _ = _
          simp only [ap]; rfl
         refine one_ (i := 3) (N := some 67) (bA 32 15) rfl rfl (one_of HT_.out (by kernel_rfl)) (by decide) (fun K hK => ?_)
         refine goes_ Try.func14 (by kernel_rfl) rfl #[.slice Ao152 y233.length co152] (by rfl) rfl rfl (by (try simp only [mp]); first | done | rfl | (simp only [ld]; rfl)) ?_
         with_reducible refine (serinettelaw01_numbers.calls kj6 _ _ y233 true _ ?side1 ?side2 A83.out).mono ?_
         (case side1 => repeat (first | exact (Kd.R_reads' HO235.out).2.2 | (with_reducible refine Kd.C_alloc ?_ _) | (with_reducible refine Kd.C_drewN ?_ _) | (with_reducible refine Kd.C_drew ?_)))
         (case side2 => exact (Kd.R_reads' HO235.out).2.1)
         rintro e w153 ⟨rfl, hb⟩
         refine ⟨_, rfl, ?_⟩
         replace HO235 := Aside0.mk (Kd.R_below (by (with_reducible repeat (first | apply Kd.R_alloc | apply Kd.R_drewN | apply Kd.R_drew)); exact HO235.out) hb)
         replace BK191 := kb BK191 hb
         replace BK192 := kb BK192 hb
         replace BK218 := kb BK218 hb
         replace BK221 := kb BK221 hb
         replace BK232 := kb BK232 hb
         replace HB := hs' HB (by repeat first | (with_reducible exact HB.out) | refine bl1 ?_ | (with_reducible refine bset ?_ ‹_›) | exact HB.out) hb
         (try clear hb); (try clear hb2); (try clear hk); (try clear hi)
         refine hK.out _ _ ⟨(blk_cell BK232.out 0).trans rfl, (blk_cell BK232.out 1).trans rfl, (blk_cell BK192.out 0).trans rfl, (blk_cell BK192.out 1).trans rfl⟩ (fun hHeld => ?_)
         clear hK K
         refine norm_ (a' := ?_) ?_ ?_
         rotate_left
         ·
          show Act.put _ (some 67) _ = _
          simp only [ap]; rfl
         refine pure_ (i := 4) (N := some 68) (v := ?_) (a' := ?_) (bA 32 31) rfl rfl (any_of HT_.out (by kernel_rfl)) (fun _ _ _ h => h) (Or.inl ⟨by rfl, ?_⟩) ?_ ?_
         rotate_left
         ·
          intro w'
          go_simp; with_reducible rfl
         rotate_left
         ·
          simp only [ap]
          rfl
         refine pure_ (i := 5) (N := some 69) (v := ?_) (a' := ?_) (bA 32 63) rfl rfl (any_of HT_.out (by kernel_rfl)) (fun _ _ _ h => h) (Or.inl ⟨by rfl, ?_⟩) ?_ ?_
         rotate_left
         ·
          intro w'
          go_simp; with_reducible rfl
         rotate_left
         ·
          simp only [ap]
          rfl
         refine take_ (i := 6) (N := some 70) (v := ?_) (a' := ?_) (bA 32 127) rfl rfl (take_ofW HT_.out HW_.out (by kernel_rfl)) (fun _ _ _ h => h) (Or.inl ⟨by rfl, ?_⟩) hHeld ?_ ?_
         rotate_left
         ·
          rintro w' ⟨s0, s1, s2, s3⟩
          go_simp; with_reducible rfl
         rotate_left
         ·
          simp only [ap]
          rfl
         refine pure_ (i := 7) (N := some 71) (v := ?_) (a' := ?_) (bA 32 255) rfl rfl (any_of HT_.out (by kernel_rfl)) (fun _ _ _ h => h) (Or.inl ⟨by rfl, ?_⟩) ?_ ?_
         rotate_left
         ·
          intro w'
          go_simp; with_reducible rfl
         rotate_left
         ·
          simp only [ap]
          rfl
         refine pure_ (i := 8) (N := some 72) (v := ?_) (a' := ?_) (bA 32 511) rfl rfl (any_of HT_.out (by kernel_rfl)) (fun _ _ _ h => h) (Or.inl ⟨by rfl, ?_⟩) ?_ ?_
         rotate_left
         ·
          intro w'
          go_simp; with_reducible rfl
         rotate_left
         ·
          simp only [ap]
          rfl
         refine pure_ (i := 9) (N := some 73) (v := undef) (a' := ?_) (bA 32 1023) rfl rfl (any_of HT_.out (by kernel_rfl)) (fun _ _ _ h => h) (Or.inr ⟨by rfl, rfl⟩) ?_ ?_
         rotate_left
         ·
          simp only [ap]
          rfl
         refine pure_ (i := 10) (N := some 74) (v := undef) (a' := ?_) (bA 32 2047) rfl rfl (any_of HT_.out (by kernel_rfl)) (fun _ _ _ h => h) (Or.inr ⟨by rfl, rfl⟩) ?_ ?_
         rotate_left
         ·
          simp only [ap]
          rfl
         refine pure_ (i := 11) (N := some 75) (v := undef) (a' := ?_) (bA 32 4095) rfl rfl (any_of HT_.out (by kernel_rfl)) (fun _ _ _ h => h) (Or.inr ⟨by rfl, rfl⟩) ?_ ?_
         rotate_left
         ·
          simp only [ap]
          rfl
         refine pure_ (i := 12) (N := some 76) (v := ?_) (a' := ?_) (bA 32 8191) rfl rfl (any_of HT_.out (by kernel_rfl)) (fun _ _ _ h => h) (Or.inl ⟨by rfl, ?_⟩) ?_ ?_
         rotate_left
         ·
          intro w'
          go_simp; with_reducible rfl
         rotate_left
         ·
          simp only [ap]
          rfl
         refine pure_ (i := 13) (N := some 77) (v := ?_) (a' := ?_) (bA 32 16383) rfl rfl (any_of HT_.out (by kernel_rfl)) (fun _ _ _ h => h) (Or.inl ⟨by rfl, ?_⟩) ?_ ?_
         rotate_left
         ·
          intro w'
          go_simp; with_reducible rfl
         rotate_left
         ·
          simp only [ap]
          rfl
         refine pure_ (i := 14) (N := some 78) (v := ?_) (a' := ?_) (bA 32 32767) rfl rfl (any_of HT_.out (by kernel_rfl)) (fun _ _ _ h => h) (Or.inl ⟨by rfl, ?_⟩) ?_ ?_
         rotate_left
         ·
          intro w'
          go_simp; with_reducible rfl
         rotate_left
         ·
          simp only [ap]
          rfl
         refine take_ (i := 15) (N := some 79) (v := ?_) (a' := ?_) (bA 32 65535) rfl rfl (take_ofW HT_.out HW_.out (by kernel_rfl)) (fun _ _ _ h => h) (Or.inl ⟨by rfl, ?_⟩) hHeld ?_ ?_
         rotate_left
         ·
          rintro w' ⟨s0, s1, s2, s3⟩
          go_simp; with_reducible rfl
         rotate_left
         ·
          simp only [ap]
          rfl
         refine pure_ (i := 16) (N := some 80) (v := ?_) (a' := ?_) (bA 32 131071) rfl rfl (any_of HT_.out (by kernel_rfl)) (fun _ _ _ h => h) (Or.inl ⟨by rfl, ?_⟩) ?_ ?_
         rotate_left
         ·
          intro w'
          go_simp; with_reducible rfl
         rotate_left
         ·
          simp only [ap]
          rfl
         refine pure_ (i := 17) (N := some 81) (v := ?_) (a' := ?_) (bA 32 262143) rfl rfl (any_of HT_.out (by kernel_rfl)) (fun _ _ _ h => h) (Or.inl ⟨by rfl, ?_⟩) ?_ ?_
         rotate_left
         ·
          intro w'
          go_simp; with_reducible rfl
         rotate_left
         ·
          simp only [ap]
          rfl
         refine pure_ (i := 18) (N := some 82) (v := undef) (a' := ?_) (bA 32 524287) rfl rfl (any_of HT_.out (by kernel_rfl)) (fun _ _ _ h => h) (Or.inr ⟨by rfl, rfl⟩) ?_ ?_
         rotate_left
         ·
          simp only [ap]
          rfl
         refine pure_ (i := 19) (N := some 83) (v := undef) (a' := ?_) (bA 32 1048575) rfl rfl (any_of HT_.out (by kernel_rfl)) (fun _ _ _ h => h) (Or.inr ⟨by rfl, rfl⟩) ?_ ?_
         rotate_left
         ·
          simp only [ap]
          rfl
         refine pure_ (i := 20) (N := some 84) (v := undef) (a' := ?_) (bA 32 2097151) rfl rfl (any_of HT_.out (by kernel_rfl)) (fun _ _ _ h => h) (Or.inr ⟨by rfl, rfl⟩) ?_ ?_
         rotate_left
         ·
          simp only [ap]
          rfl
         refine pure_ (i := 21) (N := some 85) (v := ?_) (a' := ?_) (bA 32 4194303) rfl rfl (any_of HT_.out (by kernel_rfl)) (fun _ _ _ h => h) (Or.inl ⟨by rfl, ?_⟩) ?_ ?_
         rotate_left
         ·
          intro w'
          go_simp; with_reducible rfl
         rotate_left
         ·
          simp only [ap]
          rfl
         refine pure_ (i := 22) (N := some 86) (v := ?_) (a' := ?_) (bA 32 8388607) rfl rfl (any_of HT_.out (by kernel_rfl)) (fun _ _ _ h => h) (Or.inl ⟨by rfl, ?_⟩) ?_ ?_
         rotate_left
         ·
          intro w'
          go_simp; with_reducible rfl
         rotate_left
         ·
          simp only [ap]
          rfl
         refine pure_ (i := 23) (N := some 87) (v := ?_) (a' := ?_) (bA 32 16777215) rfl rfl (any_of HT_.out (by kernel_rfl)) (fun _ _ _ h => h) (Or.inl ⟨by rfl, ?_⟩) ?_ ?_
         rotate_left
         ·
          intro w'
          go_simp; with_reducible rfl
         rotate_left
         ·
          simp only [ap]
          rfl
         refine take_ (i := 24) (N := some 88) (v := ?_) (a' := ?_) (bA 32 33554431) rfl rfl (take_ofW HT_.out HW_.out (by kernel_rfl)) (fun _ _ _ h => h) (Or.inl ⟨by rfl, ?_⟩) hHeld ?_ ?_
         rotate_left
         ·
          rintro w' ⟨s0, s1, s2, s3⟩
          go_simp; with_reducible rfl
         rotate_left
         ·
          simp only [ap]
          rfl
         refine take_ (i := 26) (N := some 90) (v := ?_) (a' := ?_) (bA 32 100663295) rfl rfl (take_ofW HT_.out HW_.out (by kernel_rfl)) (fun _ _ _ h => h) (Or.inl ⟨by rfl, ?_⟩) hHeld ?_ ?_
         rotate_left
         ·
          rintro w' ⟨s0, s1, s2, s3⟩
          go_simp; with_reducible rfl
         rotate_left
         ·
          simp only [ap]
          rfl
         refine one_ (i := 25) (N := some 89) (bA 32 134217727) rfl rfl (one_of HT_.out (by kernel_rfl)) (by decide) (fun K hK => ?_)
         refine goes_ Try.func31 (by kernel_rfl) rfl #[.agg #[.int .i64 t230, .int .i64 t231]] (by rfl) rfl rfl (by (try simp only [mp]); first | done | rfl | (simp only [ld]; rfl)) ?_
         with_reducible refine (ratio_Abs.calls kj6 t230 t231 t252 t253 _ A145.out).mono ?_
         rintro e w154 ⟨rfl, hb⟩
         refine ⟨_, rfl, ?_⟩
         replace HO235 := Aside0.mk (Kd.R_below (by (with_reducible repeat (first | apply Kd.R_alloc | apply Kd.R_drewN | apply Kd.R_drew)); exact HO235.out) hb)
         replace BK191 := kb BK191 hb
         replace BK192 := kb BK192 hb
         replace BK218 := kb BK218 hb
         replace BK221 := kb BK221 hb
         replace BK232 := kb BK232 hb
         replace HB := hs' HB (by repeat first | (with_reducible exact HB.out) | refine bl1 ?_ | (with_reducible refine bset ?_ ‹_›) | exact HB.out) hb
         (try clear hb); (try clear hb2); (try clear hk); (try clear hi)
         refine hK.out _ _ ⟨(blk_cell BK232.out 0).trans rfl, (blk_cell BK232.out 1).trans rfl, (blk_cell BK192.out 0).trans rfl, (blk_cell BK192.out 1).trans rfl⟩ (fun hHeld => ?_)
         clear hK K
         refine norm_ (a' := ?_) ?_ ?_
         rotate_left
         ·
          show Act.put _ (some 89) _ = _
          simp only [ap]; rfl
         refine one_ (i := 27) (N := some 91) (bA 32 268435455) rfl rfl (one_of HT_.out (by kernel_rfl)) (by decide) (fun K hK => ?_)
         refine goes_ Try.func31 (by kernel_rfl) rfl #[.agg #[.int .i64 a1_0, .int .i64 a1_1]] (by rfl) rfl rfl (by (try simp only [mp]); first | done | rfl | (simp only [ld]; rfl)) ?_
         with_reducible refine (ratio_Abs.calls kj6 a1_0 a1_1 t254 t255 _ A146.out).mono ?_
         rintro e w155 ⟨rfl, hb⟩
         refine ⟨_, rfl, ?_⟩
         replace HO235 := Aside0.mk (Kd.R_below (by (with_reducible repeat (first | apply Kd.R_alloc | apply Kd.R_drewN | apply Kd.R_drew)); exact HO235.out) hb)
         replace BK191 := kb BK191 hb
         replace BK192 := kb BK192 hb
         replace BK218 := kb BK218 hb
         replace BK221 := kb BK221 hb
         replace BK232 := kb BK232 hb
         replace HB := hs' HB (by repeat first | (with_reducible exact HB.out) | refine bl1 ?_ | (with_reducible refine bset ?_ ‹_›) | exact HB.out) hb
         (try clear hb); (try clear hb2); (try clear hk); (try clear hi)
         refine hK.out _ _ ⟨(blk_cell BK232.out 0).trans rfl, (blk_cell BK232.out 1).trans rfl, (blk_cell BK192.out 0).trans rfl, (blk_cell BK192.out 1).trans rfl⟩ (fun hHeld => ?_)
         clear hK K
         refine norm_ (a' := ?_) ?_ ?_
         rotate_left
         ·
          show Act.put _ (some 91) _ = _
          simp only [ap]; rfl
         refine one_ (i := 28) (N := some 92) (bA 32 536870911) rfl rfl (one_of HT_.out (by kernel_rfl)) (by decide) (fun K hK => ?_)
         refine goes_ Try.func19 (by kernel_rfl) rfl #[.agg #[.int .i64 t252, .int .i64 t253], .agg #[.int .i64 t254, .int .i64 t255]] (by rfl) rfl rfl (by (try simp only [mp]); first | done | rfl | (simp only [ld]; rfl)) ?_
         with_reducible refine (ratio_Cmp.calls kj6 t252 t253 t254 t255 t256 _ A147.out).mono ?_
         rintro e w156 ⟨rfl, hb⟩
         refine ⟨_, rfl, ?_⟩
         replace HO235 := Aside0.mk (Kd.R_below (by (with_reducible repeat (first | apply Kd.R_alloc | apply Kd.R_drewN | apply Kd.R_drew)); exact HO235.out) hb)
         replace BK191 := kb BK191 hb
         replace BK192 := kb BK192 hb
         replace BK218 := kb BK218 hb
         replace BK221 := kb BK221 hb
         replace BK232 := kb BK232 hb
         replace HB := hs' HB (by repeat first | (with_reducible exact HB.out) | refine bl1 ?_ | (with_reducible refine bset ?_ ‹_›) | exact HB.out) hb
         (try clear hb); (try clear hb2); (try clear hk); (try clear hi)
         refine hK.out _ _ ⟨(blk_cell BK232.out 0).trans rfl, (blk_cell BK232.out 1).trans rfl, (blk_cell BK192.out 0).trans rfl, (blk_cell BK192.out 1).trans rfl⟩ (fun hHeld => ?_)
         clear hK K
         refine norm_ (a' := ?_) ?_ ?_
         rotate_left
         ·
          show Act.put _ (some 92) _ = _
          simp only [ap]; rfl
         refine pure_ (i := 29) (N := some 93) (v := ?_) (a' := ?_) (bA 32 1073741823) rfl rfl (any_of HT_.out (by kernel_rfl)) (fun _ _ _ h => h) (Or.inl ⟨by rfl, ?_⟩) ?_ ?_
         rotate_left
         ·
          intro w'
          go_simp; with_reducible rfl
         rotate_left
         ·
          simp only [ap]
          rfl
         refine pure_ (i := 30) (N := some 94) (v := ?_) (a' := ?_) (bA 32 2147483647) rfl rfl (any_of HT_.out (by kernel_rfl)) (fun _ _ _ h => h) (Or.inl ⟨by rfl, ?_⟩) ?_ ?_
         rotate_left
         ·
          intro w'
          go_simp; with_reducible rfl
         rotate_left
         ·
          simp only [ap]
          rfl
         refine pure_ (i := 31) (N := some 95) (v := ?_) (a' := ?_) (bA 32 4294967295) rfl rfl (any_of HT_.out (by kernel_rfl)) (fun _ _ _ h => h) (Or.inl ⟨by rfl, ?_⟩) ?_ ?_
         rotate_left
         ·
          intro w'
          go_simp; with_reducible rfl
         rotate_left
         ·
          simp only [ap]
          rfl
         refine done_ (done_of HT_.out (by kernel_rfl)) ?_
         try go_wp2
         go_meet
         case rel => exact ⟨_, (decide (t256 ≥ 0)), (by first | rfl | (simp; done) | (simp [*]; done)), H', ⟨by have := HJ6.out; first | omega | exact Nat.le_refl _⟩, ⟨by refine bk ?_; exact BK191.out⟩, ⟨by refine bk ?_; exact BK192.out⟩, ⟨by refine bk ?_; exact BK218.out⟩, ⟨by refine bk ?_; exact BK221.out⟩, ⟨by refine bk ?_; exact BK232.out⟩, ⟨by repeat first | exact HB.out | refine bset ?_ ‹_› | apply below_alloc | apply pw_below_drewN | apply below_drew1⟩⟩
      ·
       replace c84 := Bool.eq_false_iff.mpr c84
       subst c84
       rw [if_neg (show ¬ (false = true) by decide)] at H
       have H' := Aside0.mk H
       clear H
       try go_wp2
       have n0_ : Aside0 (((w77.setCell ⟨gb232, 0, none⟩ (.int .i64 t230)).setCell ⟨gb232, 1, none⟩ (.int .i64 t231)).heap[gb191]? = some (.cells #[.int .i64 a0_0, .int .i64 a0_1] 24 (0, 0))) := ⟨by refine bk ?_; refine blk_far ?_ NB191_232.out _; refine bk ?_; refine blk_far ?_ NB191_232.out _; refine bk ?_; exact BK191.out⟩
       have n1_ : Aside0 (((w77.setCell ⟨gb232, 0, none⟩ (.int .i64 t230)).setCell ⟨gb232, 1, none⟩ (.int .i64 t231)).heap[gb192]? = some (.cells #[.int .i64 a1_0, .int .i64 a1_1] 24 (0, 0))) := ⟨by refine bk ?_; refine blk_far ?_ NB192_232.out _; refine bk ?_; refine blk_far ?_ NB192_232.out _; refine bk ?_; exact BK192.out⟩
       have n2_ : Aside0 (((w77.setCell ⟨gb232, 0, none⟩ (.int .i64 t230)).setCell ⟨gb232, 1, none⟩ (.int .i64 t231)).heap[gb218]? = some (.cells #[.int .i64 t216, .int .i64 t217] 24 (0, 0))) := ⟨by refine bk ?_; refine blk_far ?_ NB218_232.out _; refine bk ?_; refine blk_far ?_ NB218_232.out _; refine bk ?_; exact BK218.out⟩
       have n3_ : Aside0 (((w77.setCell ⟨gb232, 0, none⟩ (.int .i64 t230)).setCell ⟨gb232, 1, none⟩ (.int .i64 t231)).heap[gb221]? = some (.cells #[.int .i64 t219, .int .i64 t220] 24 (0, 0))) := ⟨by refine bk ?_; refine blk_far ?_ NB221_232.out _; refine bk ?_; refine blk_far ?_ NB221_232.out _; refine bk ?_; exact BK221.out⟩
       have n4_ : Aside0 (((w77.setCell ⟨gb232, 0, none⟩ (.int .i64 t230)).setCell ⟨gb232, 1, none⟩ (.int .i64 t231)).heap[gb232]? = some (.cells #[.int .i64 t230, .int .i64 t231] 24 (0, 0))) := ⟨by refine bk ?_; refine blk_put (cs := #[.int .i64 t230, .int .i64 0]) ?_ 1 _ rfl; refine bk ?_; refine blk_put (cs := #[.int .i64 0, .int .i64 0]) ?_ 0 _ rfl; refine bk ?_; exact BK232.out⟩
       have n5_ : Aside0 (Below w.heap.size w ((w77.setCell ⟨gb232, 0, none⟩ (.int .i64 t230)).setCell ⟨gb232, 1, none⟩ (.int .i64 t231))) := ⟨by repeat first | exact HB.out | refine bset ?_ ‹_› | apply below_alloc | apply pw_below_drewN | apply below_drew1⟩
       (try clear BK191); (try clear BK192); (try clear BK218); (try clear BK221); (try clear BK232); (try clear HB)
       generalize ((w77.setCell ⟨gb232, 0, none⟩ (.int .i64 t230)).setCell ⟨gb232, 1, none⟩ (.int .i64 t231)) = w157 at n0_ n1_ n2_ n3_ n4_ n5_ ⊢
       have BK191 := n0_
       have BK192 := n1_
       have BK218 := n2_
       have BK221 := n3_
       have BK232 := n4_
       have HB := n5_
       clear n0_ n1_ n2_ n3_ n4_ n5_
       replace BK191 := kd BK191
       replace BK192 := kd BK192
       replace BK218 := kd BK218
       replace BK221 := kd BK221
       replace BK232 := kd BK232
       replace HB := Aside0.mk (below_drew1 HB.out)
       refine start_ (n := 32) (S := fun w' => w'.cell? ⟨gb232, 0, none⟩ = some (.int .i64 t230) ∧ w'.cell? ⟨gb232, 1, none⟩ = some (.int .i64 t231) ∧ w'.cell? ⟨gb192, 0, none⟩ = some (.int .i64 a1_0) ∧ w'.cell? ⟨gb192, 1, none⟩ = some (.int .i64 a1_1)) (ds := []) (bA 32 0) (by kernel_rfl) rfl rfl ⟨(blk_cell BK232.out 0).trans rfl, (blk_cell BK232.out 1).trans rfl, (blk_cell BK192.out 0).trans rfl, (blk_cell BK192.out 1).trans rfl⟩ (fun hHeld => ?_); refine with_tabW serinettelaw01_NumberRounds.tab8 serinettelaw01_NumberRounds.bits8 (fun HT_ HW_ => ?_)
       generalize w157.drew = w158 at BK191 BK192 BK218 BK221 BK232 HB hHeld ⊢
       refine take_ (i := 0) (N := some 64) (v := ?_) (a' := ?_) (bA 32 1) rfl rfl (take_ofW HT_.out HW_.out (by kernel_rfl)) (fun _ _ _ h => h) (Or.inl ⟨by rfl, ?_⟩) hHeld ?_ ?_
       rotate_left
       ·
        rintro w' ⟨s0, s1, s2, s3⟩
        go_simp; with_reducible rfl
       rotate_left
       ·
        simp only [ap]
        rfl
       refine take_ (i := 1) (N := some 65) (v := ?_) (a' := ?_) (bA 32 3) rfl rfl (take_ofW HT_.out HW_.out (by kernel_rfl)) (fun _ _ _ h => h) (Or.inl ⟨by rfl, ?_⟩) hHeld ?_ ?_
       rotate_left
       ·
        rintro w' ⟨s0, s1, s2, s3⟩
        go_simp; with_reducible rfl
       rotate_left
       ·
        simp only [ap]
        rfl
       refine one_ (i := 2) (N := some 66) (bA 32 7) rfl rfl (one_of HT_.out (by kernel_rfl)) (by decide) (fun K hK => ?_)
       refine Kd.R_lit_step k24 _ 24 ?hg (N := 66) ?hd (xs := ([(⟨t230, t231⟩ : S24), (⟨a1_0, a1_1⟩ : S24)] : List (S24))) (inner := [.int .i64 t230, .int .i64 t231, .int .i64 a1_0, .int .i64 a1_1]) (ok := fun _ => True) (okp := fun _ => True) ?hr ?hp (fun _ hk => hk) trivial (Below.refl _ _) (Nat.le_refl _) (by simp) ?_; (case hd => rfl); (case hg => rfl); (case hr => first | (go_simp; done) | (go_simp; rfl)); (case hp => exact (Reps.c2 (show Kd.M k24 _ _ _ (⟨t230, t231⟩ : S24) [.int .i64 t230, .int .i64 t231] from (k24_mkM _ _ _ (⟨t230, t231⟩ : S24) )) (Reps.c2 (show Kd.M k24 _ _ _ (⟨a1_0, a1_1⟩ : S24) [.int .i64 a1_0, .int .i64 a1_1] from (k24_mkM _ _ _ (⟨a1_0, a1_1⟩ : S24) )) (Reps.none _ _))))
       intro v234 w159 ho160 hb hg_ hnew_
       clear hg_ hnew_
       (first | rw [← Ny233.out] at ho160 | (simp only [Int.reduceToNat] at ho160; rw [← Ny233.out] at ho160))
       have HO235 := Aside0.mk (Kd.R_lower (Kd.R_newB (Kd.R_newB (Kd.R_newB (Kd.R_newB (Kd.R_newB ho160 (g := gb191) (o := .cells #[.int .i64 a0_0, .int .i64 a0_1] 24 (0, 0)) (bk BK191.out)) (g := gb192) (o := .cells #[.int .i64 a1_0, .int .i64 a1_1] 24 (0, 0)) (bk BK192.out)) (g := gb218) (o := .cells #[.int .i64 t216, .int .i64 t217] 24 (0, 0)) (bk BK218.out)) (g := gb221) (o := .cells #[.int .i64 t219, .int .i64 t220] 24 (0, 0)) (bk BK221.out)) (g := gb232) (o := .cells #[.int .i64 t230, .int .i64 t231] 24 (0, 0)) (bk BK232.out)) (below_size (by repeat first | (with_reducible exact HB.out) | refine bl1 ?_ | (with_reducible refine bset ?_ ‹_›) | exact HB.out)))
       replace BK191 := kb BK191 hb
       replace BK192 := kb BK192 hb
       replace BK218 := kb BK218 hb
       replace BK221 := kb BK221 hb
       replace BK232 := kb BK232 hb
       replace HB := hs' HB (by repeat first | (with_reducible exact HB.out) | refine bl1 ?_ | (with_reducible refine bset ?_ ‹_›) | exact HB.out) hb
       clear hb ho160
       obtain ⟨Ao161, co161, eo161⟩ := Kd.R_slice HO235.out
       (first | subst eo161 | (injection eo161 with f1_ f2_ f3_; have f4_ := f1_.symm; have f5_ := f3_.symm; clear f1_ f2_ f3_; subst f4_; subst f5_))
       refine hK.out _ _ ⟨(blk_cell BK232.out 0).trans rfl, (blk_cell BK232.out 1).trans rfl, (blk_cell BK192.out 0).trans rfl, (blk_cell BK192.out 1).trans rfl⟩ (fun hHeld => ?_)
       clear hK K
       refine norm_ (a' := ?_) ?_ ?_
       rotate_left
       ·
        show Act.put _ (some 66) _ = _
        simp only [ap]; rfl
       refine one_ (i := 3) (N := some 67) (bA 32 15) rfl rfl (one_of HT_.out (by kernel_rfl)) (by decide) (fun K hK => ?_)
       refine goes_ Try.func14 (by kernel_rfl) rfl #[.slice Ao161 y233.length co161] (by rfl) rfl rfl (by (try simp only [mp]); first | done | rfl | (simp only [ld]; rfl)) ?_
       with_reducible refine (serinettelaw01_numbers.calls kj6 _ _ y233 false _ ?side1 ?side2 A83.out).mono ?_
       (case side1 => repeat (first | exact (Kd.R_reads' HO235.out).2.2 | (with_reducible refine Kd.C_alloc ?_ _) | (with_reducible refine Kd.C_drewN ?_ _) | (with_reducible refine Kd.C_drew ?_)))
       (case side2 => exact (Kd.R_reads' HO235.out).2.1)
       rintro e w162 ⟨rfl, hb⟩
       refine ⟨_, rfl, ?_⟩
       replace HO235 := Aside0.mk (Kd.R_below (by (with_reducible repeat (first | apply Kd.R_alloc | apply Kd.R_drewN | apply Kd.R_drew)); exact HO235.out) hb)
       replace BK191 := kb BK191 hb
       replace BK192 := kb BK192 hb
       replace BK218 := kb BK218 hb
       replace BK221 := kb BK221 hb
       replace BK232 := kb BK232 hb
       replace HB := hs' HB (by repeat first | (with_reducible exact HB.out) | refine bl1 ?_ | (with_reducible refine bset ?_ ‹_›) | exact HB.out) hb
       (try clear hb); (try clear hb2); (try clear hk); (try clear hi)
       refine hK.out _ _ ⟨(blk_cell BK232.out 0).trans rfl, (blk_cell BK232.out 1).trans rfl, (blk_cell BK192.out 0).trans rfl, (blk_cell BK192.out 1).trans rfl⟩ (fun hHeld => ?_)
       clear hK K
       refine norm_ (a' := ?_) ?_ ?_
       rotate_left
       ·
        show Act.put _ (some 67) _ = _
        simp only [ap]; rfl
       refine pure_ (i := 4) (N := some 68) (v := ?_) (a' := ?_) (bA 32 31) rfl rfl (any_of HT_.out (by kernel_rfl)) (fun _ _ _ h => h) (Or.inl ⟨by rfl, ?_⟩) ?_ ?_
       rotate_left
       ·
        intro w'
        go_simp; with_reducible rfl
       rotate_left
       ·
        simp only [ap]
        rfl
       refine pure_ (i := 5) (N := some 69) (v := undef) (a' := ?_) (bA 32 63) rfl rfl (any_of HT_.out (by kernel_rfl)) (fun _ _ _ h => h) (Or.inr ⟨by rfl, rfl⟩) ?_ ?_
       rotate_left
       ·
        simp only [ap]
        rfl
       refine pure_ (i := 6) (N := some 70) (v := undef) (a' := ?_) (bA 32 127) rfl rfl (any_of HT_.out (by kernel_rfl)) (fun _ _ _ h => h) (Or.inr ⟨by rfl, rfl⟩) ?_ ?_
       rotate_left
       ·
        simp only [ap]
        rfl
       refine pure_ (i := 7) (N := some 71) (v := undef) (a' := ?_) (bA 32 255) rfl rfl (any_of HT_.out (by kernel_rfl)) (fun _ _ _ h => h) (Or.inr ⟨by rfl, rfl⟩) ?_ ?_
       rotate_left
       ·
        simp only [ap]
        rfl
       refine pure_ (i := 8) (N := some 72) (v := undef) (a' := ?_) (bA 32 511) rfl rfl (any_of HT_.out (by kernel_rfl)) (fun _ _ _ h => h) (Or.inr ⟨by rfl, rfl⟩) ?_ ?_
       rotate_left
       ·
        simp only [ap]
        rfl
       refine pure_ (i := 9) (N := some 73) (v := undef) (a' := ?_) (bA 32 1023) rfl rfl (any_of HT_.out (by kernel_rfl)) (fun _ _ _ h => h) (Or.inr ⟨by rfl, rfl⟩) ?_ ?_
       rotate_left
       ·
        simp only [ap]
        rfl
       refine pure_ (i := 10) (N := some 74) (v := undef) (a' := ?_) (bA 32 2047) rfl rfl (any_of HT_.out (by kernel_rfl)) (fun _ _ _ h => h) (Or.inr ⟨by rfl, rfl⟩) ?_ ?_
       rotate_left
       ·
        simp only [ap]
        rfl
       refine pure_ (i := 11) (N := some 75) (v := undef) (a' := ?_) (bA 32 4095) rfl rfl (any_of HT_.out (by kernel_rfl)) (fun _ _ _ h => h) (Or.inr ⟨by rfl, rfl⟩) ?_ ?_
       rotate_left
       ·
        simp only [ap]
        rfl
       refine pure_ (i := 12) (N := some 76) (v := undef) (a' := ?_) (bA 32 8191) rfl rfl (any_of HT_.out (by kernel_rfl)) (fun _ _ _ h => h) (Or.inr ⟨by rfl, rfl⟩) ?_ ?_
       rotate_left
       ·
        simp only [ap]
        rfl
       refine pure_ (i := 13) (N := some 77) (v := undef) (a' := ?_) (bA 32 16383) rfl rfl (any_of HT_.out (by kernel_rfl)) (fun _ _ _ h => h) (Or.inr ⟨by rfl, rfl⟩) ?_ ?_
       rotate_left
       ·
        simp only [ap]
        rfl
       refine pure_ (i := 14) (N := some 78) (v := undef) (a' := ?_) (bA 32 32767) rfl rfl (any_of HT_.out (by kernel_rfl)) (fun _ _ _ h => h) (Or.inr ⟨by rfl, rfl⟩) ?_ ?_
       rotate_left
       ·
        simp only [ap]
        rfl
       refine pure_ (i := 15) (N := some 79) (v := undef) (a' := ?_) (bA 32 65535) rfl rfl (any_of HT_.out (by kernel_rfl)) (fun _ _ _ h => h) (Or.inr ⟨by rfl, rfl⟩) ?_ ?_
       rotate_left
       ·
        simp only [ap]
        rfl
       refine pure_ (i := 16) (N := some 80) (v := undef) (a' := ?_) (bA 32 131071) rfl rfl (any_of HT_.out (by kernel_rfl)) (fun _ _ _ h => h) (Or.inr ⟨by rfl, rfl⟩) ?_ ?_
       rotate_left
       ·
        simp only [ap]
        rfl
       refine pure_ (i := 17) (N := some 81) (v := undef) (a' := ?_) (bA 32 262143) rfl rfl (any_of HT_.out (by kernel_rfl)) (fun _ _ _ h => h) (Or.inr ⟨by rfl, rfl⟩) ?_ ?_
       rotate_left
       ·
        simp only [ap]
        rfl
       refine pure_ (i := 18) (N := some 82) (v := undef) (a' := ?_) (bA 32 524287) rfl rfl (any_of HT_.out (by kernel_rfl)) (fun _ _ _ h => h) (Or.inr ⟨by rfl, rfl⟩) ?_ ?_
       rotate_left
       ·
        simp only [ap]
        rfl
       refine pure_ (i := 19) (N := some 83) (v := undef) (a' := ?_) (bA 32 1048575) rfl rfl (any_of HT_.out (by kernel_rfl)) (fun _ _ _ h => h) (Or.inr ⟨by rfl, rfl⟩) ?_ ?_
       rotate_left
       ·
        simp only [ap]
        rfl
       refine pure_ (i := 20) (N := some 84) (v := undef) (a' := ?_) (bA 32 2097151) rfl rfl (any_of HT_.out (by kernel_rfl)) (fun _ _ _ h => h) (Or.inr ⟨by rfl, rfl⟩) ?_ ?_
       rotate_left
       ·
        simp only [ap]
        rfl
       refine pure_ (i := 21) (N := some 85) (v := undef) (a' := ?_) (bA 32 4194303) rfl rfl (any_of HT_.out (by kernel_rfl)) (fun _ _ _ h => h) (Or.inr ⟨by rfl, rfl⟩) ?_ ?_
       rotate_left
       ·
        simp only [ap]
        rfl
       refine pure_ (i := 22) (N := some 86) (v := undef) (a' := ?_) (bA 32 8388607) rfl rfl (any_of HT_.out (by kernel_rfl)) (fun _ _ _ h => h) (Or.inr ⟨by rfl, rfl⟩) ?_ ?_
       rotate_left
       ·
        simp only [ap]
        rfl
       refine pure_ (i := 23) (N := some 87) (v := undef) (a' := ?_) (bA 32 16777215) rfl rfl (any_of HT_.out (by kernel_rfl)) (fun _ _ _ h => h) (Or.inr ⟨by rfl, rfl⟩) ?_ ?_
       rotate_left
       ·
        simp only [ap]
        rfl
       refine pure_ (i := 24) (N := some 88) (v := undef) (a' := ?_) (bA 32 33554431) rfl rfl (any_of HT_.out (by kernel_rfl)) (fun _ _ _ h => h) (Or.inr ⟨by rfl, rfl⟩) ?_ ?_
       rotate_left
       ·
        simp only [ap]
        rfl
       refine pure_ (i := 25) (N := some 89) (v := undef) (a' := ?_) (bA 32 67108863) rfl rfl (any_of HT_.out (by kernel_rfl)) (fun _ _ _ h => h) (Or.inr ⟨by rfl, rfl⟩) ?_ ?_
       rotate_left
       ·
        simp only [ap]
        rfl
       refine pure_ (i := 26) (N := some 90) (v := undef) (a' := ?_) (bA 32 134217727) rfl rfl (any_of HT_.out (by kernel_rfl)) (fun _ _ _ h => h) (Or.inr ⟨by rfl, rfl⟩) ?_ ?_
       rotate_left
       ·
        simp only [ap]
        rfl
       refine pure_ (i := 27) (N := some 91) (v := undef) (a' := ?_) (bA 32 268435455) rfl rfl (any_of HT_.out (by kernel_rfl)) (fun _ _ _ h => h) (Or.inr ⟨by rfl, rfl⟩) ?_ ?_
       rotate_left
       ·
        simp only [ap]
        rfl
       refine pure_ (i := 28) (N := some 92) (v := undef) (a' := ?_) (bA 32 536870911) rfl rfl (any_of HT_.out (by kernel_rfl)) (fun _ _ _ h => h) (Or.inr ⟨by rfl, rfl⟩) ?_ ?_
       rotate_left
       ·
        simp only [ap]
        rfl
       refine pure_ (i := 29) (N := some 93) (v := undef) (a' := ?_) (bA 32 1073741823) rfl rfl (any_of HT_.out (by kernel_rfl)) (fun _ _ _ h => h) (Or.inr ⟨by rfl, rfl⟩) ?_ ?_
       rotate_left
       ·
        simp only [ap]
        rfl
       refine pure_ (i := 30) (N := some 94) (v := undef) (a' := ?_) (bA 32 2147483647) rfl rfl (any_of HT_.out (by kernel_rfl)) (fun _ _ _ h => h) (Or.inr ⟨by rfl, rfl⟩) ?_ ?_
       rotate_left
       ·
        simp only [ap]
        rfl
       refine pure_ (i := 31) (N := some 95) (v := ?_) (a' := ?_) (bA 32 4294967295) rfl rfl (any_of HT_.out (by kernel_rfl)) (fun _ _ _ h => h) (Or.inl ⟨by rfl, ?_⟩) ?_ ?_
       rotate_left
       ·
        intro w'
        go_simp; with_reducible rfl
       rotate_left
       ·
        simp only [ap]
        rfl
       refine done_ (done_of HT_.out (by kernel_rfl)) ?_
       try go_wp2
       go_meet
       case rel => exact ⟨_, (false), (by first | rfl | (simp; done) | (simp [*]; done)), H', ⟨by have := HJ6.out; first | omega | exact Nat.le_refl _⟩, ⟨by refine bk ?_; exact BK191.out⟩, ⟨by refine bk ?_; exact BK192.out⟩, ⟨by refine bk ?_; exact BK218.out⟩, ⟨by refine bk ?_; exact BK221.out⟩, ⟨by refine bk ?_; exact BK232.out⟩, ⟨by repeat first | exact HB.out | refine bset ?_ ‹_› | apply below_alloc | apply pw_below_drewN | apply below_drew1⟩⟩
     case rest =>
      clear HC68
      (try clear c1); (try clear c2); (try clear p2); (try clear c3); (try clear c8); (try clear c14); (try clear c19); (try clear c31); (try clear c84)
      obtain ⟨kq, x95_67, rfl, HA, HJ67, BK191, BK192, BK218, BK221, BK232, HB⟩ := hcut
      cases kq with
      | zero => exact absurd HA.out (by simp [serinettelaw01_NumberRounds.j1])
      | succ kj67 =>
       have H := HA.out
       clear HA
       simp only [serinettelaw01_NumberRounds.j1] at H
       by_cases c163 : x95_67 = true
       ·
        subst c163
        rw [if_pos rfl] at H
        exact absurd (H.trans (congrArg some hr.out)) (by simp)
       ·
        replace c163 := Bool.eq_false_iff.mpr c163
        subst c163
        rw [if_neg (show ¬ (false = true) by decide)] at H
        replace H := Option.bind_eq_some_iff.mp H
        obtain ⟨⟨t257, t258⟩, A1640, H⟩ := H
        (try dsimp only at H)
        have A164 := Aside0.mk A1640
        clear A1640
        replace H := Option.bind_eq_some_iff.mp H
        obtain ⟨⟨t260, t261⟩, A1650, H⟩ := H
        (try dsimp only at H)
        have A165 := Aside0.mk A1650
        clear A1650
        replace H := Option.bind_eq_some_iff.mp H
        obtain ⟨⟨t262, t263⟩, A1660, H⟩ := H
        (try dsimp only at H)
        have A166 := Aside0.mk A1660
        clear A1660
        replace H := Option.bind_eq_some_iff.mp H
        obtain ⟨t264, A1670, H⟩ := H
        (try dsimp only at H)
        have A167 := Aside0.mk A1670
        clear A1670
        by_cases c168 : t264 ≤ 0
        ·
         rw [if_pos c168] at H
         have c168b0 : decide (t264 ≤ 0) = true := decide_eq_true c168
         clear c168
         replace H := Option.bind_eq_some_iff.mp H
         obtain ⟨t265, A1690, H⟩ := H
         (try dsimp only at H)
         have A169 := Aside0.mk A1690
         clear A1690
         obtain rfl := Option.some.inj H
         have hnb170 := NB191_192.out
         have hnc170 := NB192_191.out
         have hnb171 := NB191_218.out
         have hnc171 := NB218_191.out
         have hnb172 := NB191_221.out
         have hnc172 := NB221_191.out
         have hnb173 := NB191_232.out
         have hnc173 := NB232_191.out
         have hcz174_0 : wc.cell? ⟨gb191, 0, none⟩ = some (.int .i64 a0_0) := (blk_cell BK191.out 0).trans rfl
         have hcz174_1 : wc.cell? ⟨gb191, 1, none⟩ = some (.int .i64 a0_1) := (blk_cell BK191.out 1).trans rfl
         have hfz174_0 := blk_frozen BK191.out 0
         have hfz174_1 := blk_frozen BK191.out 1
         go_wp2_with (first | ((with_reducible refine gate_callee (f := 29) rfl ?_); refine goesL_ (some 97) rfl rfl Try.func29 (by kernel_rfl) rfl #[.agg #[.int .i64 a0_0, .int .i64 a0_1]] rfl (by (try simp only [mp]); first | done | rfl | (simp only [ld]; rfl)) ?_; (with_reducible refine (ratio_Round.calls kj67 a0_0 a0_1 t257 t258 _ A164.out).mono ?_); rintro e w175 ⟨rfl, hb⟩; refine ⟨_, rfl, ?_⟩; replace BK191 := kb BK191 hb; replace BK192 := kb BK192 hb; replace BK218 := kb BK218 hb; replace BK221 := kb BK221 hb; replace BK232 := kb BK232 hb; replace HB := hs' HB (by repeat first | (with_reducible exact HB.out) | refine bl1 ?_ | (with_reducible refine bset ?_ ‹_›) | exact HB.out) hb; (try clear hb); (try clear hb2); (try clear hk); (try clear hi)) | ((with_reducible refine gate_dst (N := 8) rfl ?_); (try (refine gate_guard (by rfl) ?_; dsimp only)); refine box_event ?hg (N := 8) ?hd (cs := #[.int .i64 0, .int .i64 0]) (t := 24) ?hr ?_; (case hd => rfl); (case hg => rfl); (case hr => first | (go_simp; done) | (go_simp; rfl)); intro gb259 hg w176 hbox hb; have BK259 := Aside0.mk (hbox); have GW259 := bz' HB hg (by repeat first | (with_reducible exact HB.out) | refine bl1 ?_ | (with_reducible refine bset ?_ ‹_›) | exact HB.out); have GE259 := bz' HB hg (by repeat first | (with_reducible exact HB.out) | refine bl1 ?_ | (with_reducible refine bset ?_ ‹_›) | exact HB.out); have NB191_259 := nlk hg BK191; have NB259_191 := ngk hg BK191; have NB192_259 := nlk hg BK192; have NB259_192 := ngk hg BK192; have NB218_259 := nlk hg BK218; have NB259_218 := ngk hg BK218; have NB221_259 := nlk hg BK221; have NB259_221 := ngk hg BK221; have NB232_259 := nlk hg BK232; have NB259_232 := ngk hg BK232; replace BK191 := kb BK191 hb; replace BK192 := kb BK192 hb; replace BK218 := kb BK218 hb; replace BK221 := kb BK221 hb; replace BK232 := kb BK232 hb; replace HB := hs' HB (by repeat first | (with_reducible exact HB.out) | refine bl1 ?_ | (with_reducible refine bset ?_ ‹_›) | exact HB.out) hb; clear hb hbox hg; have hnb177 := NB259_191.out; have hnc177 := NB191_259.out; have hnb178 := NB259_192.out; have hnc178 := NB192_259.out; have hnb179 := NB259_218.out; have hnc179 := NB218_259.out; have hnb180 := NB259_221.out; have hnc180 := NB221_259.out; have hnb181 := NB259_232.out; have hnc181 := NB232_259.out; have hcz182_0 : w176.cell? ⟨gb259, 0, none⟩ = some (.int .i64 0) := (blk_cell BK259.out 0).trans rfl; have hcz182_1 : w176.cell? ⟨gb259, 1, none⟩ = some (.int .i64 0) := (blk_cell BK259.out 1).trans rfl; have hfz182_0 := blk_frozen BK259.out 0; have hfz182_1 := blk_frozen BK259.out 1; have hcz183_0 : w176.cell? ⟨gb191, 0, none⟩ = some (.int .i64 a0_0) := (blk_cell BK191.out 0).trans rfl; have hcz183_1 : w176.cell? ⟨gb191, 1, none⟩ = some (.int .i64 a0_1) := (blk_cell BK191.out 1).trans rfl; have hfz183_0 := blk_frozen BK191.out 0; have hfz183_1 := blk_frozen BK191.out 1) | ((with_reducible refine gate_callee (f := 32) rfl ?_); refine goesL_ (some 100) rfl rfl Try.func32 (by kernel_rfl) rfl #[.agg #[.int .i64 t257, .int .i64 t258], .agg #[.int .i64 a0_0, .int .i64 a0_1]] rfl (by (try simp only [mp]); first | done | rfl | (simp only [ld]; rfl)) ?_; (with_reducible refine (ratio_Sub.calls kj67 t257 t258 a0_0 a0_1 t260 t261 _ A165.out).mono ?_); rintro e w184 ⟨rfl, hb⟩; refine ⟨_, rfl, ?_⟩; replace BK191 := Aside0.mk (blk_below (g := gb191) (o := .cells #[.int .i64 a0_0, .int .i64 a0_1] 24 (0, 0)) (by refine bk ?_; refine blk_far ?_ NB191_259.out _; refine bk ?_; refine blk_far ?_ NB191_259.out _; refine bk ?_; exact BK191.out) hb); replace BK192 := Aside0.mk (blk_below (g := gb192) (o := .cells #[.int .i64 a1_0, .int .i64 a1_1] 24 (0, 0)) (by refine bk ?_; refine blk_far ?_ NB192_259.out _; refine bk ?_; refine blk_far ?_ NB192_259.out _; refine bk ?_; exact BK192.out) hb); replace BK218 := Aside0.mk (blk_below (g := gb218) (o := .cells #[.int .i64 t216, .int .i64 t217] 24 (0, 0)) (by refine bk ?_; refine blk_far ?_ NB218_259.out _; refine bk ?_; refine blk_far ?_ NB218_259.out _; refine bk ?_; exact BK218.out) hb); replace BK221 := Aside0.mk (blk_below (g := gb221) (o := .cells #[.int .i64 t219, .int .i64 t220] 24 (0, 0)) (by refine bk ?_; refine blk_far ?_ NB221_259.out _; refine bk ?_; refine blk_far ?_ NB221_259.out _; refine bk ?_; exact BK221.out) hb); replace BK232 := Aside0.mk (blk_below (g := gb232) (o := .cells #[.int .i64 t230, .int .i64 t231] 24 (0, 0)) (by refine bk ?_; refine blk_far ?_ NB232_259.out _; refine bk ?_; refine blk_far ?_ NB232_259.out _; refine bk ?_; exact BK232.out) hb); replace BK259 := Aside0.mk (blk_below (g := gb259) (o := .cells #[.int .i64 t257, .int .i64 t258] 24 (0, 0)) (by refine bk ?_; refine blk_put (cs := #[.int .i64 t257, .int .i64 0]) ?_ 1 _ rfl; refine bk ?_; refine blk_put (cs := #[.int .i64 0, .int .i64 0]) ?_ 0 _ rfl; refine bk ?_; exact BK259.out) hb); replace HB := hs' HB (by repeat first | (with_reducible exact HB.out) | refine bl1 ?_ | (with_reducible refine bset ?_ ‹_›) | exact HB.out) hb; (try clear hb); (try clear hb2); (try clear hk); (try clear hi)) | ((with_reducible refine gate_callee (f := 31) rfl ?_); refine goesL_ (some 101) rfl rfl Try.func31 (by kernel_rfl) rfl #[.agg #[.int .i64 t260, .int .i64 t261]] rfl (by (try simp only [mp]); first | done | rfl | (simp only [ld]; rfl)) ?_; (with_reducible refine (ratio_Abs.calls kj67 t260 t261 t262 t263 _ A166.out).mono ?_); rintro e w185 ⟨rfl, hb⟩; refine ⟨_, rfl, ?_⟩; replace BK191 := kb BK191 hb; replace BK192 := kb BK192 hb; replace BK218 := kb BK218 hb; replace BK221 := kb BK221 hb; replace BK232 := kb BK232 hb; replace BK259 := kb BK259 hb; replace HB := hs' HB (by repeat first | (with_reducible exact HB.out) | refine bl1 ?_ | (with_reducible refine bset ?_ ‹_›) | exact HB.out) hb; (try clear hb); (try clear hb2); (try clear hk); (try clear hi)) | ((with_reducible refine gate_callee (f := 19) rfl ?_); refine goesL_ (some 103) rfl rfl Try.func19 (by kernel_rfl) rfl #[.agg #[.int .i64 t262, .int .i64 t263], .agg #[.int .i64 1, .int .i64 2]] rfl (by (try simp only [mp]); first | done | rfl | (simp only [ld]; rfl)) ?_; (with_reducible refine (ratio_Cmp.calls kj67 t262 t263 1 2 t264 _ A167.out).mono ?_); rintro e w186 ⟨rfl, hb⟩; refine ⟨_, rfl, ?_⟩; replace BK191 := kb BK191 hb; replace BK192 := kb BK192 hb; replace BK218 := kb BK218 hb; replace BK221 := kb BK221 hb; replace BK232 := kb BK232 hb; replace BK259 := kb BK259 hb; replace HB := hs' HB (by repeat first | (with_reducible exact HB.out) | refine bl1 ?_ | (with_reducible refine bset ?_ ‹_›) | exact HB.out) hb; (try clear hb); (try clear hb2); (try clear hk); (try clear hi)) | (go_at_call 11; (with_reducible refine (serinettelaw01_awake.calls kj67  t265 _ A169.out).mono ?_); rintro e w187 ⟨rfl, hb⟩; replace BK191 := kb BK191 hb; replace BK192 := kb BK192 hb; replace BK218 := kb BK218 hb; replace BK221 := kb BK221 hb; replace BK232 := kb BK232 hb; replace BK259 := kb BK259 hb; replace HB := hs' HB (by repeat first | (with_reducible exact HB.out) | refine bl1 ?_ | (with_reducible refine bset ?_ ‹_›) | exact HB.out) hb; (try clear hb); (try clear hb2); (try clear hk); (try clear hi)))
         go_ret
         exact ⟨by first | rfl | (simp [errW_none, errW_some] <;> rfl) | (simp [*, errW_none, errW_some] <;> rfl), by repeat first | exact HB.out | refine bset ?_ ‹_› | apply below_alloc | apply pw_below_drewN | apply below_drew1⟩
        ·
         rw [if_neg c168] at H
         have c168b0 : decide (t264 ≤ 0) = false := decide_eq_false c168
         clear c168
         obtain rfl := Option.some.inj H
         have hnb188 := NB191_192.out
         have hnc188 := NB192_191.out
         have hnb189 := NB191_218.out
         have hnc189 := NB218_191.out
         have hnb190 := NB191_221.out
         have hnc190 := NB221_191.out
         have hnb191 := NB191_232.out
         have hnc191 := NB232_191.out
         have hcz192_0 : wc.cell? ⟨gb191, 0, none⟩ = some (.int .i64 a0_0) := (blk_cell BK191.out 0).trans rfl
         have hcz192_1 : wc.cell? ⟨gb191, 1, none⟩ = some (.int .i64 a0_1) := (blk_cell BK191.out 1).trans rfl
         have hfz192_0 := blk_frozen BK191.out 0
         have hfz192_1 := blk_frozen BK191.out 1
         go_wp2_with (first | ((with_reducible refine gate_callee (f := 29) rfl ?_); refine goesL_ (some 97) rfl rfl Try.func29 (by kernel_rfl) rfl #[.agg #[.int .i64 a0_0, .int .i64 a0_1]] rfl (by (try simp only [mp]); first | done | rfl | (simp only [ld]; rfl)) ?_; (with_reducible refine (ratio_Round.calls kj67 a0_0 a0_1 t257 t258 _ A164.out).mono ?_); rintro e w193 ⟨rfl, hb⟩; refine ⟨_, rfl, ?_⟩; replace BK191 := kb BK191 hb; replace BK192 := kb BK192 hb; replace BK218 := kb BK218 hb; replace BK221 := kb BK221 hb; replace BK232 := kb BK232 hb; replace HB := hs' HB (by repeat first | (with_reducible exact HB.out) | refine bl1 ?_ | (with_reducible refine bset ?_ ‹_›) | exact HB.out) hb; (try clear hb); (try clear hb2); (try clear hk); (try clear hi)) | ((with_reducible refine gate_dst (N := 8) rfl ?_); (try (refine gate_guard (by rfl) ?_; dsimp only)); refine box_event ?hg (N := 8) ?hd (cs := #[.int .i64 0, .int .i64 0]) (t := 24) ?hr ?_; (case hd => rfl); (case hg => rfl); (case hr => first | (go_simp; done) | (go_simp; rfl)); intro gb259 hg w194 hbox hb; have BK259 := Aside0.mk (hbox); have GW259 := bz' HB hg (by repeat first | (with_reducible exact HB.out) | refine bl1 ?_ | (with_reducible refine bset ?_ ‹_›) | exact HB.out); have GE259 := bz' HB hg (by repeat first | (with_reducible exact HB.out) | refine bl1 ?_ | (with_reducible refine bset ?_ ‹_›) | exact HB.out); have NB191_259 := nlk hg BK191; have NB259_191 := ngk hg BK191; have NB192_259 := nlk hg BK192; have NB259_192 := ngk hg BK192; have NB218_259 := nlk hg BK218; have NB259_218 := ngk hg BK218; have NB221_259 := nlk hg BK221; have NB259_221 := ngk hg BK221; have NB232_259 := nlk hg BK232; have NB259_232 := ngk hg BK232; replace BK191 := kb BK191 hb; replace BK192 := kb BK192 hb; replace BK218 := kb BK218 hb; replace BK221 := kb BK221 hb; replace BK232 := kb BK232 hb; replace HB := hs' HB (by repeat first | (with_reducible exact HB.out) | refine bl1 ?_ | (with_reducible refine bset ?_ ‹_›) | exact HB.out) hb; clear hb hbox hg; have hnb195 := NB259_191.out; have hnc195 := NB191_259.out; have hnb196 := NB259_192.out; have hnc196 := NB192_259.out; have hnb197 := NB259_218.out; have hnc197 := NB218_259.out; have hnb198 := NB259_221.out; have hnc198 := NB221_259.out; have hnb199 := NB259_232.out; have hnc199 := NB232_259.out; have hcz200_0 : w194.cell? ⟨gb259, 0, none⟩ = some (.int .i64 0) := (blk_cell BK259.out 0).trans rfl; have hcz200_1 : w194.cell? ⟨gb259, 1, none⟩ = some (.int .i64 0) := (blk_cell BK259.out 1).trans rfl; have hfz200_0 := blk_frozen BK259.out 0; have hfz200_1 := blk_frozen BK259.out 1; have hcz201_0 : w194.cell? ⟨gb191, 0, none⟩ = some (.int .i64 a0_0) := (blk_cell BK191.out 0).trans rfl; have hcz201_1 : w194.cell? ⟨gb191, 1, none⟩ = some (.int .i64 a0_1) := (blk_cell BK191.out 1).trans rfl; have hfz201_0 := blk_frozen BK191.out 0; have hfz201_1 := blk_frozen BK191.out 1) | ((with_reducible refine gate_callee (f := 32) rfl ?_); refine goesL_ (some 100) rfl rfl Try.func32 (by kernel_rfl) rfl #[.agg #[.int .i64 t257, .int .i64 t258], .agg #[.int .i64 a0_0, .int .i64 a0_1]] rfl (by (try simp only [mp]); first | done | rfl | (simp only [ld]; rfl)) ?_; (with_reducible refine (ratio_Sub.calls kj67 t257 t258 a0_0 a0_1 t260 t261 _ A165.out).mono ?_); rintro e w202 ⟨rfl, hb⟩; refine ⟨_, rfl, ?_⟩; replace BK191 := Aside0.mk (blk_below (g := gb191) (o := .cells #[.int .i64 a0_0, .int .i64 a0_1] 24 (0, 0)) (by refine bk ?_; refine blk_far ?_ NB191_259.out _; refine bk ?_; refine blk_far ?_ NB191_259.out _; refine bk ?_; exact BK191.out) hb); replace BK192 := Aside0.mk (blk_below (g := gb192) (o := .cells #[.int .i64 a1_0, .int .i64 a1_1] 24 (0, 0)) (by refine bk ?_; refine blk_far ?_ NB192_259.out _; refine bk ?_; refine blk_far ?_ NB192_259.out _; refine bk ?_; exact BK192.out) hb); replace BK218 := Aside0.mk (blk_below (g := gb218) (o := .cells #[.int .i64 t216, .int .i64 t217] 24 (0, 0)) (by refine bk ?_; refine blk_far ?_ NB218_259.out _; refine bk ?_; refine blk_far ?_ NB218_259.out _; refine bk ?_; exact BK218.out) hb); replace BK221 := Aside0.mk (blk_below (g := gb221) (o := .cells #[.int .i64 t219, .int .i64 t220] 24 (0, 0)) (by refine bk ?_; refine blk_far ?_ NB221_259.out _; refine bk ?_; refine blk_far ?_ NB221_259.out _; refine bk ?_; exact BK221.out) hb); replace BK232 := Aside0.mk (blk_below (g := gb232) (o := .cells #[.int .i64 t230, .int .i64 t231] 24 (0, 0)) (by refine bk ?_; refine blk_far ?_ NB232_259.out _; refine bk ?_; refine blk_far ?_ NB232_259.out _; refine bk ?_; exact BK232.out) hb); replace BK259 := Aside0.mk (blk_below (g := gb259) (o := .cells #[.int .i64 t257, .int .i64 t258] 24 (0, 0)) (by refine bk ?_; refine blk_put (cs := #[.int .i64 t257, .int .i64 0]) ?_ 1 _ rfl; refine bk ?_; refine blk_put (cs := #[.int .i64 0, .int .i64 0]) ?_ 0 _ rfl; refine bk ?_; exact BK259.out) hb); replace HB := hs' HB (by repeat first | (with_reducible exact HB.out) | refine bl1 ?_ | (with_reducible refine bset ?_ ‹_›) | exact HB.out) hb; (try clear hb); (try clear hb2); (try clear hk); (try clear hi)) | ((with_reducible refine gate_callee (f := 31) rfl ?_); refine goesL_ (some 101) rfl rfl Try.func31 (by kernel_rfl) rfl #[.agg #[.int .i64 t260, .int .i64 t261]] rfl (by (try simp only [mp]); first | done | rfl | (simp only [ld]; rfl)) ?_; (with_reducible refine (ratio_Abs.calls kj67 t260 t261 t262 t263 _ A166.out).mono ?_); rintro e w203 ⟨rfl, hb⟩; refine ⟨_, rfl, ?_⟩; replace BK191 := kb BK191 hb; replace BK192 := kb BK192 hb; replace BK218 := kb BK218 hb; replace BK221 := kb BK221 hb; replace BK232 := kb BK232 hb; replace BK259 := kb BK259 hb; replace HB := hs' HB (by repeat first | (with_reducible exact HB.out) | refine bl1 ?_ | (with_reducible refine bset ?_ ‹_›) | exact HB.out) hb; (try clear hb); (try clear hb2); (try clear hk); (try clear hi)) | ((with_reducible refine gate_callee (f := 19) rfl ?_); refine goesL_ (some 103) rfl rfl Try.func19 (by kernel_rfl) rfl #[.agg #[.int .i64 t262, .int .i64 t263], .agg #[.int .i64 1, .int .i64 2]] rfl (by (try simp only [mp]); first | done | rfl | (simp only [ld]; rfl)) ?_; (with_reducible refine (ratio_Cmp.calls kj67 t262 t263 1 2 t264 _ A167.out).mono ?_); rintro e w204 ⟨rfl, hb⟩; refine ⟨_, rfl, ?_⟩; replace BK191 := kb BK191 hb; replace BK192 := kb BK192 hb; replace BK218 := kb BK218 hb; replace BK221 := kb BK221 hb; replace BK232 := kb BK232 hb; replace BK259 := kb BK259 hb; replace HB := hs' HB (by repeat first | (with_reducible exact HB.out) | refine bl1 ?_ | (with_reducible refine bset ?_ ‹_›) | exact HB.out) hb; (try clear hb); (try clear hb2); (try clear hk); (try clear hi)))
         go_ret
         exact ⟨by first | rfl | (simp [errW_none, errW_some] <;> rfl) | (simp [*, errW_none, errW_some] <;> rfl), by repeat first | exact HB.out | refine bset ?_ ‹_› | apply below_alloc | apply pw_below_drewN | apply below_drew1⟩
 ·
  replace c4 := Bool.eq_false_iff.mpr c4
  subst c4
  rw [if_neg (show ¬ (false = true) by decide)] at H
  replace H := Option.bind_eq_some_iff.mp H
  obtain ⟨⟨t197, t198⟩, A2050, H⟩ := H
  (try dsimp only at H)
  have A205 := Aside0.mk A2050
  clear A2050
  obtain ⟨y199, hy199⟩ : ∃ y_ : List (S24), y_ = (([(⟨t197, t198⟩ : S24)] : List (S24))) := ⟨_, rfl⟩
  replace H : ((serinettelaw01_numbers.f k y199).bind fun t202 => (if t202 = true then (some false) else ((ratio_Round.f k a0_0 a0_1).bind fun bt203 => ((serinettelaw01_numbers.f k (([(⟨bt203.1, bt203.2⟩ : S24)] : List (S24)))).bind fun t208 => (if t208 = true then (some false) else ((ratio_Frac.f k a0_0 a0_1).bind fun bt209 => ((serinettelaw01_numbers.f k (([(⟨bt209.1, bt209.2⟩ : S24)] : List (S24)))).bind fun t214 => (if t214 = true then (some false) else ((serinettelaw01_awake.f k).bind fun t215 => (some t215)))))))))) = some r := by first | (rw [hy199]; with_reducible exact H) | (have H2_ := (Option.bind_some _ _).symm.trans H; rw [hy199]; with_reducible exact H2_) | (have H2_ := (Option.bind_some _ _).symm.trans H; with_reducible exact H2_) | with_reducible exact H | (rw [hy199]; exact H) | exact H
  have Ny199 := Aside0.mk hy199
  clear hy199
  replace H := Option.bind_eq_some_iff.mp H
  obtain ⟨t202, A2060, H⟩ := H
  (try dsimp only at H)
  have A206 := Aside0.mk A2060
  clear A2060
  by_cases c207 : t202 = true
  ·
   subst c207
   rw [if_pos rfl] at H
   exact absurd (H.trans (congrArg some hr.out)) (by simp)
  ·
   replace c207 := Bool.eq_false_iff.mpr c207
   subst c207
   rw [if_neg (show ¬ (false = true) by decide)] at H
   replace H := Option.bind_eq_some_iff.mp H
   obtain ⟨⟨t203, t204⟩, A2220, H⟩ := H
   (try dsimp only at H)
   have A222 := Aside0.mk A2220
   clear A2220
   obtain ⟨y205, hy205⟩ : ∃ y_ : List (S24), y_ = (([(⟨t203, t204⟩ : S24)] : List (S24))) := ⟨_, rfl⟩
   replace H : ((serinettelaw01_numbers.f k y205).bind fun t208 => (if t208 = true then (some false) else ((ratio_Frac.f k a0_0 a0_1).bind fun bt209 => ((serinettelaw01_numbers.f k (([(⟨bt209.1, bt209.2⟩ : S24)] : List (S24)))).bind fun t214 => (if t214 = true then (some false) else ((serinettelaw01_awake.f k).bind fun t215 => (some t215))))))) = some r := by first | (rw [hy205]; with_reducible exact H) | (have H2_ := (Option.bind_some _ _).symm.trans H; rw [hy205]; with_reducible exact H2_) | (have H2_ := (Option.bind_some _ _).symm.trans H; with_reducible exact H2_) | with_reducible exact H | (rw [hy205]; exact H) | exact H
   have Ny205 := Aside0.mk hy205
   clear hy205
   replace H := Option.bind_eq_some_iff.mp H
   obtain ⟨t208, A2230, H⟩ := H
   (try dsimp only at H)
   have A223 := Aside0.mk A2230
   clear A2230
   by_cases c224 : t208 = true
   ·
    subst c224
    rw [if_pos rfl] at H
    exact absurd (H.trans (congrArg some hr.out)) (by simp)
   ·
    replace c224 := Bool.eq_false_iff.mpr c224
    subst c224
    rw [if_neg (show ¬ (false = true) by decide)] at H
    replace H := Option.bind_eq_some_iff.mp H
    obtain ⟨⟨t209, t210⟩, A2450, H⟩ := H
    (try dsimp only at H)
    have A245 := Aside0.mk A2450
    clear A2450
    obtain ⟨y211, hy211⟩ : ∃ y_ : List (S24), y_ = (([(⟨t209, t210⟩ : S24)] : List (S24))) := ⟨_, rfl⟩
    replace H : ((serinettelaw01_numbers.f k y211).bind fun t214 => (if t214 = true then (some false) else ((serinettelaw01_awake.f k).bind fun t215 => (some t215)))) = some r := by first | (rw [hy211]; with_reducible exact H) | (have H2_ := (Option.bind_some _ _).symm.trans H; rw [hy211]; with_reducible exact H2_) | (have H2_ := (Option.bind_some _ _).symm.trans H; with_reducible exact H2_) | with_reducible exact H | (rw [hy211]; exact H) | exact H
    have Ny211 := Aside0.mk hy211
    clear hy211
    replace H := Option.bind_eq_some_iff.mp H
    obtain ⟨t214, A2460, H⟩ := H
    (try dsimp only at H)
    have A246 := Aside0.mk A2460
    clear A2460
    by_cases c247 : t214 = true
    ·
     subst c247
     rw [if_pos rfl] at H
     exact absurd (H.trans (congrArg some hr.out)) (by simp)
    ·
     replace c247 := Bool.eq_false_iff.mpr c247
     subst c247
     rw [if_neg (show ¬ (false = true) by decide)] at H
     replace H := Option.bind_eq_some_iff.mp H
     obtain ⟨t215, A2740, H⟩ := H
     (try dsimp only at H)
     have A274 := Aside0.mk A2740
     clear A2740
     obtain rfl := Option.some.inj H
     go_enter Try.func7, Try.ntmps7
     go_wp2_with (first | ((with_reducible refine gate_dst (N := 2) rfl ?_); (try (refine gate_guard (by rfl) ?_; dsimp only)); refine box_event ?hg (N := 2) ?hd (cs := #[.int .i64 a0_0, .int .i64 a0_1]) (t := 24) ?hr ?_; (case hd => rfl); (case hg => rfl); (case hr => first | (go_simp; done) | (go_simp; rfl)); intro gb191 hg w275 hbox hb; have BK191 := Aside0.mk (hbox); have GW191 := hz_ hg HB; have GE191 := hz_ hg HB; replace HB := hs HB hb; clear hb hbox hg) | ((with_reducible refine gate_dst (N := 3) rfl ?_); (try (refine gate_guard (by rfl) ?_; dsimp only)); refine box_event ?hg (N := 3) ?hd (cs := #[.int .i64 a1_0, .int .i64 a1_1]) (t := 24) ?hr ?_; (case hd => rfl); (case hg => rfl); (case hr => first | (go_simp; done) | (go_simp; rfl)); intro gb192 hg w276 hbox hb; have BK192 := Aside0.mk (hbox); have GW192 := bz' HB hg (by repeat first | (with_reducible exact HB.out) | refine bl1 ?_ | (with_reducible refine bset ?_ ‹_›) | exact HB.out); have GE192 := bz' HB hg (by repeat first | (with_reducible exact HB.out) | refine bl1 ?_ | (with_reducible refine bset ?_ ‹_›) | exact HB.out); have NB191_192 := nlk hg BK191; have NB192_191 := ngk hg BK191; replace BK191 := kb BK191 hb; replace HB := hs' HB (by repeat first | (with_reducible exact HB.out) | refine bl1 ?_ | (with_reducible refine bset ?_ ‹_›) | exact HB.out) hb; clear hb hbox hg; have hnb277 := NB191_192.out; have hnc277 := NB192_191.out; have hcz278_0 : w276.cell? ⟨gb191, 0, none⟩ = some (.int .i64 a0_0) := (blk_cell BK191.out 0).trans rfl; have hcz278_1 : w276.cell? ⟨gb191, 1, none⟩ = some (.int .i64 a0_1) := (blk_cell BK191.out 1).trans rfl; have hfz278_0 := blk_frozen BK191.out 0; have hfz278_1 := blk_frozen BK191.out 1) | ((with_reducible refine gate_dst (N := 10) rfl ?_); (try (refine gate_guard (by rfl) ?_; dsimp only)); refine Kd.R_lit k24 _ 24 ?hg (N := 10) ?hd (xs := ([(⟨a0_0, a0_1⟩ : S24)] : List (S24))) (inner := [.int .i64 a0_0, .int .i64 a0_1]) (ok := fun _ => True) (okp := fun _ => True) ?hr ?hp (fun _ hk => hk) trivial (Below.refl _ _) (Nat.le_refl _) (by simp) ?_; (case hd => rfl); (case hg => rfl); (case hr => first | (go_simp; done) | (go_simp; rfl)); (case hp => exact (Reps.c2 (show Kd.M k24 _ _ _ (⟨a0_0, a0_1⟩ : S24) [.int .i64 a0_0, .int .i64 a0_1] from (k24_mkM _ _ _ (⟨a0_0, a0_1⟩ : S24) )) (Reps.none _ _))); intro v194 w279 ho280 hb hg_ hnew_; clear hg_ hnew_; (first | rw [← Ny193.out] at ho280 | (simp only [Int.reduceToNat] at ho280; rw [← Ny193.out] at ho280)); have HO195 := Aside0.mk (Kd.R_lower (Kd.R_newB (Kd.R_newB ho280 (g := gb191) (o := .cells #[.int .i64 a0_0, .int .i64 a0_1] 24 (0, 0)) (bk BK191.out)) (g := gb192) (o := .cells #[.int .i64 a1_0, .int .i64 a1_1] 24 (0, 0)) (bk BK192.out)) (below_size (by repeat first | (with_reducible exact HB.out) | refine bl1 ?_ | (with_reducible refine bset ?_ ‹_›) | exact HB.out))); replace BK191 := kb BK191 hb; replace BK192 := kb BK192 hb; replace HB := hs' HB (by repeat first | (with_reducible exact HB.out) | refine bl1 ?_ | (with_reducible refine bset ?_ ‹_›) | exact HB.out) hb; clear hb ho280; obtain ⟨Ao281, co281, eo281⟩ := Kd.R_slice HO195.out; subst eo281) | ((with_reducible refine gate_callee (f := 14) rfl ?_); refine goesL_ (some 11) rfl rfl Try.func14 (by kernel_rfl) rfl #[.slice Ao281 y193.length co281] rfl (by (try simp only [mp]); first | done | rfl | (simp only [ld]; rfl)) ?_; (with_reducible refine (serinettelaw01_numbers.calls k _ _ y193 false _ ?side1 ?side2 A3.out).mono ?_); (case side1 => repeat (first | exact (Kd.R_reads' HO195.out).2.2 | (with_reducible refine Kd.C_alloc ?_ _) | (with_reducible refine Kd.C_drewN ?_ _) | (with_reducible refine Kd.C_drew ?_))); (case side2 => exact (Kd.R_reads' HO195.out).2.1); rintro e w282 ⟨rfl, hb⟩; refine ⟨_, rfl, ?_⟩; replace HO195 := Aside0.mk (Kd.R_below (by (with_reducible repeat (first | apply Kd.R_alloc | apply Kd.R_drewN | apply Kd.R_drew)); exact HO195.out) hb); replace BK191 := kb BK191 hb; replace BK192 := kb BK192 hb; replace HB := hs' HB (by repeat first | (with_reducible exact HB.out) | refine bl1 ?_ | (with_reducible refine bset ?_ ‹_›) | exact HB.out) hb; (try clear hb); (try clear hb2); (try clear hk); (try clear hi); have hcz283_0 : w282.cell? ⟨gb191, 0, none⟩ = some (.int .i64 a0_0) := (blk_cell BK191.out 0).trans rfl; have hcz283_1 : w282.cell? ⟨gb191, 1, none⟩ = some (.int .i64 a0_1) := (blk_cell BK191.out 1).trans rfl; have hfz283_0 := blk_frozen BK191.out 0; have hfz283_1 := blk_frozen BK191.out 1) | ((with_reducible refine gate_callee (f := 28) rfl ?_); refine goesL_ (some 14) rfl rfl Try.func28 (by kernel_rfl) rfl #[.agg #[.int .i64 a0_0, .int .i64 a0_1]] rfl (by (try simp only [mp]); first | done | rfl | (simp only [ld]; rfl)) ?_; (with_reducible refine (ratio_Floor.calls k a0_0 a0_1 t197 t198 _ A205.out).mono ?_); rintro e w284 ⟨rfl, hb⟩; refine ⟨_, rfl, ?_⟩; replace HO195 := Aside0.mk (Kd.R_below (by (with_reducible repeat (first | apply Kd.R_alloc | apply Kd.R_drewN | apply Kd.R_drew)); exact HO195.out) hb); replace BK191 := kb BK191 hb; replace BK192 := kb BK192 hb; replace HB := hs' HB (by repeat first | (with_reducible exact HB.out) | refine bl1 ?_ | (with_reducible refine bset ?_ ‹_›) | exact HB.out) hb; (try clear hb); (try clear hb2); (try clear hk); (try clear hi)) | ((with_reducible refine gate_dst (N := 15) rfl ?_); (try (refine gate_guard (by rfl) ?_; dsimp only)); refine Kd.R_lit k24 _ 24 ?hg (N := 15) ?hd (xs := ([(⟨t197, t198⟩ : S24)] : List (S24))) (inner := [.int .i64 t197, .int .i64 t198]) (ok := fun _ => True) (okp := fun _ => True) ?hr ?hp (fun _ hk => hk) trivial (Below.refl _ _) (Nat.le_refl _) (by simp) ?_; (case hd => rfl); (case hg => rfl); (case hr => first | (go_simp; done) | (go_simp; rfl)); (case hp => exact (Reps.c2 (show Kd.M k24 _ _ _ (⟨t197, t198⟩ : S24) [.int .i64 t197, .int .i64 t198] from (k24_mkM _ _ _ (⟨t197, t198⟩ : S24) )) (Reps.none _ _))); intro v200 w285 ho286 hb hg_ hnew_; clear hg_ hnew_; (first | rw [← Ny199.out] at ho286 | (simp only [Int.reduceToNat] at ho286; rw [← Ny199.out] at ho286)); have HO201 := Aside0.mk (Kd.R_lower (Kd.R_newB (Kd.R_newB (Kd.R_new' ho286 (Kd.R_lt (by (with_reducible repeat (first | apply Kd.R_alloc | apply Kd.R_drewN | apply Kd.R_drew)); exact HO195.out))) (g := gb191) (o := .cells #[.int .i64 a0_0, .int .i64 a0_1] 24 (0, 0)) (bk BK191.out)) (g := gb192) (o := .cells #[.int .i64 a1_0, .int .i64 a1_1] 24 (0, 0)) (bk BK192.out)) (below_size (by repeat first | (with_reducible exact HB.out) | refine bl1 ?_ | (with_reducible refine bset ?_ ‹_›) | exact HB.out))); replace HO195 := Aside0.mk (Kd.R_elder' (by (with_reducible repeat (first | apply Kd.R_alloc | apply Kd.R_drewN | apply Kd.R_drew)); exact HO195.out) (Kd.R_base ho286) hb); replace BK191 := kb BK191 hb; replace BK192 := kb BK192 hb; replace HB := hs' HB (by repeat first | (with_reducible exact HB.out) | refine bl1 ?_ | (with_reducible refine bset ?_ ‹_›) | exact HB.out) hb; clear hb ho286; obtain ⟨Ao287, co287, eo287⟩ := Kd.R_slice HO201.out; subst eo287) | ((with_reducible refine gate_callee (f := 14) rfl ?_); refine goesL_ (some 16) rfl rfl Try.func14 (by kernel_rfl) rfl #[.slice Ao287 y199.length co287] rfl (by (try simp only [mp]); first | done | rfl | (simp only [ld]; rfl)) ?_; (with_reducible refine (serinettelaw01_numbers.calls k _ _ y199 false _ ?side1 ?side2 A206.out).mono ?_); (case side1 => repeat (first | exact (Kd.R_reads' HO201.out).2.2 | (with_reducible refine Kd.C_alloc ?_ _) | (with_reducible refine Kd.C_drewN ?_ _) | (with_reducible refine Kd.C_drew ?_))); (case side2 => exact (Kd.R_reads' HO201.out).2.1); rintro e w288 ⟨rfl, hb⟩; refine ⟨_, rfl, ?_⟩; replace HO195 := Aside0.mk (Kd.R_below (by (with_reducible repeat (first | apply Kd.R_alloc | apply Kd.R_drewN | apply Kd.R_drew)); exact HO195.out) hb); replace HO201 := Aside0.mk (Kd.R_below (by (with_reducible repeat (first | apply Kd.R_alloc | apply Kd.R_drewN | apply Kd.R_drew)); exact HO201.out) hb); replace BK191 := kb BK191 hb; replace BK192 := kb BK192 hb; replace HB := hs' HB (by repeat first | (with_reducible exact HB.out) | refine bl1 ?_ | (with_reducible refine bset ?_ ‹_›) | exact HB.out) hb; (try clear hb); (try clear hb2); (try clear hk); (try clear hi); have hcz289_0 : w288.cell? ⟨gb191, 0, none⟩ = some (.int .i64 a0_0) := (blk_cell BK191.out 0).trans rfl; have hcz289_1 : w288.cell? ⟨gb191, 1, none⟩ = some (.int .i64 a0_1) := (blk_cell BK191.out 1).trans rfl; have hfz289_0 := blk_frozen BK191.out 0; have hfz289_1 := blk_frozen BK191.out 1) | (go_at_call 29; (with_reducible refine (ratio_Round.calls k a0_0 a0_1 t203 t204 _ A222.out).mono ?_); rintro e w290 ⟨rfl, hb⟩; replace HO195 := Aside0.mk (Kd.R_below (by (with_reducible repeat (first | apply Kd.R_alloc | apply Kd.R_drewN | apply Kd.R_drew)); exact HO195.out) hb); replace HO201 := Aside0.mk (Kd.R_below (by (with_reducible repeat (first | apply Kd.R_alloc | apply Kd.R_drewN | apply Kd.R_drew)); exact HO201.out) hb); replace BK191 := kb BK191 hb; replace BK192 := kb BK192 hb; replace HB := hs' HB (by repeat first | (with_reducible exact HB.out) | refine bl1 ?_ | (with_reducible refine bset ?_ ‹_›) | exact HB.out) hb; (try clear hb); (try clear hb2); (try clear hk); (try clear hi)) | ((with_reducible refine gate_dst (N := 21) rfl ?_); (try (refine gate_guard (by rfl) ?_; dsimp only)); refine Kd.R_lit k24 _ 24 ?hg (N := 21) ?hd (xs := ([(⟨t203, t204⟩ : S24)] : List (S24))) (inner := [.int .i64 t203, .int .i64 t204]) (ok := fun _ => True) (okp := fun _ => True) ?hr ?hp (fun _ hk => hk) trivial (Below.refl _ _) (Nat.le_refl _) (by simp) ?_; (case hd => rfl); (case hg => rfl); (case hr => first | (go_simp; done) | (go_simp; rfl)); (case hp => exact (Reps.c2 (show Kd.M k24 _ _ _ (⟨t203, t204⟩ : S24) [.int .i64 t203, .int .i64 t204] from (k24_mkM _ _ _ (⟨t203, t204⟩ : S24) )) (Reps.none _ _))); intro v206 w291 ho292 hb hg_ hnew_; clear hg_ hnew_; (first | rw [← Ny205.out] at ho292 | (simp only [Int.reduceToNat] at ho292; rw [← Ny205.out] at ho292)); have HO207 := Aside0.mk (Kd.R_lower (Kd.R_newB (Kd.R_newB (Kd.R_new' (Kd.R_new' ho292 (Kd.R_lt (by (with_reducible repeat (first | apply Kd.R_alloc | apply Kd.R_drewN | apply Kd.R_drew)); exact HO195.out))) (Kd.R_lt (by (with_reducible repeat (first | apply Kd.R_alloc | apply Kd.R_drewN | apply Kd.R_drew)); exact HO201.out))) (g := gb191) (o := .cells #[.int .i64 a0_0, .int .i64 a0_1] 24 (0, 0)) (bk BK191.out)) (g := gb192) (o := .cells #[.int .i64 a1_0, .int .i64 a1_1] 24 (0, 0)) (bk BK192.out)) (below_size (by repeat first | (with_reducible exact HB.out) | refine bl1 ?_ | (with_reducible refine bset ?_ ‹_›) | exact HB.out))); replace HO195 := Aside0.mk (Kd.R_elder' (by (with_reducible repeat (first | apply Kd.R_alloc | apply Kd.R_drewN | apply Kd.R_drew)); exact HO195.out) (Kd.R_base ho292) hb); replace HO201 := Aside0.mk (Kd.R_elder' (by (with_reducible repeat (first | apply Kd.R_alloc | apply Kd.R_drewN | apply Kd.R_drew)); exact HO201.out) (Kd.R_base ho292) hb); replace BK191 := kb BK191 hb; replace BK192 := kb BK192 hb; replace HB := hs' HB (by repeat first | (with_reducible exact HB.out) | refine bl1 ?_ | (with_reducible refine bset ?_ ‹_›) | exact HB.out) hb; clear hb ho292; obtain ⟨Ao293, co293, eo293⟩ := Kd.R_slice HO207.out; subst eo293) | (go_at_call 14; (with_reducible refine (serinettelaw01_numbers.calls k _ _ y205 false _ ?side1 ?side2 A223.out).mono ?_); (case side1 => repeat (first | exact (Kd.R_reads' HO207.out).2.2 | (with_reducible refine Kd.C_alloc ?_ _) | (with_reducible refine Kd.C_drewN ?_ _) | (with_reducible refine Kd.C_drew ?_))); (case side2 => exact (Kd.R_reads' HO207.out).2.1); rintro e w294 ⟨rfl, hb⟩; replace HO195 := Aside0.mk (Kd.R_below (by (with_reducible repeat (first | apply Kd.R_alloc | apply Kd.R_drewN | apply Kd.R_drew)); exact HO195.out) hb); replace HO201 := Aside0.mk (Kd.R_below (by (with_reducible repeat (first | apply Kd.R_alloc | apply Kd.R_drewN | apply Kd.R_drew)); exact HO201.out) hb); replace HO207 := Aside0.mk (Kd.R_below (by (with_reducible repeat (first | apply Kd.R_alloc | apply Kd.R_drewN | apply Kd.R_drew)); exact HO207.out) hb); replace BK191 := kb BK191 hb; replace BK192 := kb BK192 hb; replace HB := hs' HB (by repeat first | (with_reducible exact HB.out) | refine bl1 ?_ | (with_reducible refine bset ?_ ‹_›) | exact HB.out) hb; (try clear hb); (try clear hb2); (try clear hk); (try clear hi); have hcz295_0 : w294.cell? ⟨gb191, 0, none⟩ = some (.int .i64 a0_0) := (blk_cell BK191.out 0).trans rfl; have hcz295_1 : w294.cell? ⟨gb191, 1, none⟩ = some (.int .i64 a0_1) := (blk_cell BK191.out 1).trans rfl; have hfz295_0 := blk_frozen BK191.out 0; have hfz295_1 := blk_frozen BK191.out 1) | (go_at_call 30; (with_reducible refine (ratio_Frac.calls k a0_0 a0_1 t209 t210 _ A245.out).mono ?_); rintro e w296 ⟨rfl, hb⟩; replace HO195 := Aside0.mk (Kd.R_below (by (with_reducible repeat (first | apply Kd.R_alloc | apply Kd.R_drewN | apply Kd.R_drew)); exact HO195.out) hb); replace HO201 := Aside0.mk (Kd.R_below (by (with_reducible repeat (first | apply Kd.R_alloc | apply Kd.R_drewN | apply Kd.R_drew)); exact HO201.out) hb); replace HO207 := Aside0.mk (Kd.R_below (by (with_reducible repeat (first | apply Kd.R_alloc | apply Kd.R_drewN | apply Kd.R_drew)); exact HO207.out) hb); replace BK191 := kb BK191 hb; replace BK192 := kb BK192 hb; replace HB := hs' HB (by repeat first | (with_reducible exact HB.out) | refine bl1 ?_ | (with_reducible refine bset ?_ ‹_›) | exact HB.out) hb; (try clear hb); (try clear hb2); (try clear hk); (try clear hi)) | ((with_reducible refine gate_dst (N := 28) rfl ?_); (try (refine gate_guard (by rfl) ?_; dsimp only)); refine Kd.R_lit k24 _ 24 ?hg (N := 28) ?hd (xs := ([(⟨t209, t210⟩ : S24)] : List (S24))) (inner := [.int .i64 t209, .int .i64 t210]) (ok := fun _ => True) (okp := fun _ => True) ?hr ?hp (fun _ hk => hk) trivial (Below.refl _ _) (Nat.le_refl _) (by simp) ?_; (case hd => rfl); (case hg => rfl); (case hr => first | (go_simp; done) | (go_simp; rfl)); (case hp => exact (Reps.c2 (show Kd.M k24 _ _ _ (⟨t209, t210⟩ : S24) [.int .i64 t209, .int .i64 t210] from (k24_mkM _ _ _ (⟨t209, t210⟩ : S24) )) (Reps.none _ _))); intro v212 w297 ho298 hb hg_ hnew_; clear hg_ hnew_; (first | rw [← Ny211.out] at ho298 | (simp only [Int.reduceToNat] at ho298; rw [← Ny211.out] at ho298)); have HO213 := Aside0.mk (Kd.R_lower (Kd.R_newB (Kd.R_newB (Kd.R_new' (Kd.R_new' (Kd.R_new' ho298 (Kd.R_lt (by (with_reducible repeat (first | apply Kd.R_alloc | apply Kd.R_drewN | apply Kd.R_drew)); exact HO195.out))) (Kd.R_lt (by (with_reducible repeat (first | apply Kd.R_alloc | apply Kd.R_drewN | apply Kd.R_drew)); exact HO201.out))) (Kd.R_lt (by (with_reducible repeat (first | apply Kd.R_alloc | apply Kd.R_drewN | apply Kd.R_drew)); exact HO207.out))) (g := gb191) (o := .cells #[.int .i64 a0_0, .int .i64 a0_1] 24 (0, 0)) (bk BK191.out)) (g := gb192) (o := .cells #[.int .i64 a1_0, .int .i64 a1_1] 24 (0, 0)) (bk BK192.out)) (below_size (by repeat first | (with_reducible exact HB.out) | refine bl1 ?_ | (with_reducible refine bset ?_ ‹_›) | exact HB.out))); replace HO195 := Aside0.mk (Kd.R_elder' (by (with_reducible repeat (first | apply Kd.R_alloc | apply Kd.R_drewN | apply Kd.R_drew)); exact HO195.out) (Kd.R_base ho298) hb); replace HO201 := Aside0.mk (Kd.R_elder' (by (with_reducible repeat (first | apply Kd.R_alloc | apply Kd.R_drewN | apply Kd.R_drew)); exact HO201.out) (Kd.R_base ho298) hb); replace HO207 := Aside0.mk (Kd.R_elder' (by (with_reducible repeat (first | apply Kd.R_alloc | apply Kd.R_drewN | apply Kd.R_drew)); exact HO207.out) (Kd.R_base ho298) hb); replace BK191 := kb BK191 hb; replace BK192 := kb BK192 hb; replace HB := hs' HB (by repeat first | (with_reducible exact HB.out) | refine bl1 ?_ | (with_reducible refine bset ?_ ‹_›) | exact HB.out) hb; clear hb ho298; obtain ⟨Ao299, co299, eo299⟩ := Kd.R_slice HO213.out; subst eo299) | (go_at_call 14; (with_reducible refine (serinettelaw01_numbers.calls k _ _ y211 false _ ?side1 ?side2 A246.out).mono ?_); (case side1 => repeat (first | exact (Kd.R_reads' HO213.out).2.2 | (with_reducible refine Kd.C_alloc ?_ _) | (with_reducible refine Kd.C_drewN ?_ _) | (with_reducible refine Kd.C_drew ?_))); (case side2 => exact (Kd.R_reads' HO213.out).2.1); rintro e w300 ⟨rfl, hb⟩; replace HO195 := Aside0.mk (Kd.R_below (by (with_reducible repeat (first | apply Kd.R_alloc | apply Kd.R_drewN | apply Kd.R_drew)); exact HO195.out) hb); replace HO201 := Aside0.mk (Kd.R_below (by (with_reducible repeat (first | apply Kd.R_alloc | apply Kd.R_drewN | apply Kd.R_drew)); exact HO201.out) hb); replace HO207 := Aside0.mk (Kd.R_below (by (with_reducible repeat (first | apply Kd.R_alloc | apply Kd.R_drewN | apply Kd.R_drew)); exact HO207.out) hb); replace HO213 := Aside0.mk (Kd.R_below (by (with_reducible repeat (first | apply Kd.R_alloc | apply Kd.R_drewN | apply Kd.R_drew)); exact HO213.out) hb); replace BK191 := kb BK191 hb; replace BK192 := kb BK192 hb; replace HB := hs' HB (by repeat first | (with_reducible exact HB.out) | refine bl1 ?_ | (with_reducible refine bset ?_ ‹_›) | exact HB.out) hb; (try clear hb); (try clear hb2); (try clear hk); (try clear hi)) | (go_at_call 11; (with_reducible refine (serinettelaw01_awake.calls k  t215 _ A274.out).mono ?_); rintro e w301 ⟨rfl, hb⟩; replace HO195 := Aside0.mk (Kd.R_below (by (with_reducible repeat (first | apply Kd.R_alloc | apply Kd.R_drewN | apply Kd.R_drew)); exact HO195.out) hb); replace HO201 := Aside0.mk (Kd.R_below (by (with_reducible repeat (first | apply Kd.R_alloc | apply Kd.R_drewN | apply Kd.R_drew)); exact HO201.out) hb); replace HO207 := Aside0.mk (Kd.R_below (by (with_reducible repeat (first | apply Kd.R_alloc | apply Kd.R_drewN | apply Kd.R_drew)); exact HO207.out) hb); replace HO213 := Aside0.mk (Kd.R_below (by (with_reducible repeat (first | apply Kd.R_alloc | apply Kd.R_drewN | apply Kd.R_drew)); exact HO213.out) hb); replace BK191 := kb BK191 hb; replace BK192 := kb BK192 hb; replace HB := hs' HB (by repeat first | (with_reducible exact HB.out) | refine bl1 ?_ | (with_reducible refine bset ?_ ‹_›) | exact HB.out) hb; (try clear hb); (try clear hb2); (try clear hk); (try clear hi)))
     go_ret
     exact ⟨by first | rfl | (simp [errW_none, errW_some] <;> rfl) | (simp [*, errW_none, errW_some] <;> rfl), by repeat first | exact HB.out | refine bset ?_ ‹_› | apply below_alloc | apply pw_below_drewN | apply below_drew1⟩
end Go.Proofs.Ytgecbfemlpmpeaa.SNumberRounds
