/- Turned by a program of this session out of what the print prints for the functions that NumberSays reaches: the same proofs in shorter words. -/
import Derived.Test.YtgecbfemlpmpeaaSNumberSays0
import Derived.Test.YtgecbfemlpmpeaaSNumberSays2
import Derived.Test.YtgecbfemlpmpeaaSNumberSays3
import Derived.Test.YtgecbfemlpmpeaaSNumberSays5
import Derived.Test.YtgecbfemlpmpeaaSNumberSays6
import Derived.Test.YtgecbfemlpmpeaaSNumberSays7
namespace Go.Proofs.Ytgecbfemlpmpeaa.SNumberSays
open Go.RowKit Go.Proofs.Ytgecbfemlpmpeaa.Wd.PrintWords Go.Proofs.Ytgecbfemlpmpeaa.Wd.PrintLast Go.Proofs.Ytgecbfemlpmpeaa.Wd.PrintMore
set_option linter.unusedVariables false
set_option linter.unusedSimpArgs false
attribute [local go_sem] max2_int min2_int max_two min_two max_three min_three max_four min_four   -- for this text's walks alone
/-! ### serinetteref01_Floor: function 46 -/
def serinetteref01_Floor.f (k : Nat) (a0_0 : Int) (a0_1 : Int) : Option (Int × Int) := (serinetteref01_Is.f k a0_0 a0_1).bind fun t297 => (if t297 = true then ((serinetteref01_FloorDiv.f a0_0 a0_1).bind fun t298 => ((serinetteref01_Whole.f k t298).bind fun bt299 => (some (bt299.1, bt299.2)))) else ((serinetteref01_None.f).bind fun bt301 => (some (bt301.1, bt301.2))))
theorem serinetteref01_Floor.mono : ∀ a0 a1 k, LeO (serinetteref01_Floor.f k a0 a1) (serinetteref01_Floor.f (k + 1) a0 a1) := by
 intro a0 a1 k
 unfold serinetteref01_Floor.f
 repeat' first
   | (with_reducible exact serinetteref01_Is.mono _ _ _)
   | (with_reducible exact serinetteref01_Whole.mono _ _)
   | (with_reducible exact LeO.refl _)
   | (with_reducible exact LeO.none _)
   | (with_reducible refine LeO.ite ?_ ?_)
   | (with_reducible refine LeO.bind ?_ (fun _ => ?_))
   | exact serinetteref01_Is.mono _ _ _
   | exact serinetteref01_Whole.mono _ _
   | exact LeO.none _
   | refine LeO.ite ?_ ?_
   | refine LeO.bind ?_ (fun _ => ?_)
set_option maxHeartbeats 8000000 in
set_option maxRecDepth 100000 in
theorem serinetteref01_Floor.calls (k : Nat) (a0_0 : Int) (a0_1 : Int) (r1 : Int) (r2 : Int) (w : World) (h : serinetteref01_Floor.f k a0_0 a0_1 = some (r1, r2)) :
  Calls Try.prog 46 #[.agg #[.int .i64 a0_0, .int .i64 a0_1]] w fun e w' => e = .returned (.agg #[.int .i64 r1, .int .i64 r2]) ∧ Below w.heap.size w w' := by
 have hu24 := Try.underlying24
 have HB := Aside0.mk (Below.refl w.heap.size w)
 have H : ((serinetteref01_Is.f k a0_0 a0_1).bind fun t297 => (if t297 = true then ((serinetteref01_FloorDiv.f a0_0 a0_1).bind fun t298 => ((serinetteref01_Whole.f k t298).bind fun bt299 => (some (bt299.1, bt299.2)))) else ((serinetteref01_None.f).bind fun bt301 => (some (bt301.1, bt301.2))))) = some (r1, r2) := h
 clear h
 replace H := Option.bind_eq_some_iff.mp H
 obtain ⟨t297, A20, H⟩ := H
 (try dsimp only at H)
 have A2 := Aside0.mk A20
 clear A20
 by_cases c3 : t297 = true
 ·
  subst c3
  rw [if_pos rfl] at H
  replace H := Option.bind_eq_some_iff.mp H
  obtain ⟨t298, A40, H⟩ := H
  (try dsimp only at H)
  have A4 := Aside0.mk A40
  clear A40
  replace H := Option.bind_eq_some_iff.mp H
  obtain ⟨⟨t299, t300⟩, A50, H⟩ := H
  (try dsimp only at H)
  have A5 := Aside0.mk A50
  clear A50
  simp only [Option.some.injEq, Prod.mk.injEq] at H
  obtain ⟨rfl, rfl⟩ := H
  go_enter Try.func46, Try.ntmps46
  go_wp2_with (first | ((with_reducible refine gate_dst (N := 1) rfl ?_); refine box_event ?hg (N := 1) ?hd (cs := #[.int .i64 a0_0, .int .i64 a0_1]) (t := 24) ?hr ?_; (case hd => rfl); (case hg => rfl); (case hr => first | (go_simp; done) | (go_simp; rfl)); intro gb295 hg w6 hbox hb; have BK295 := Aside0.mk (hbox); have GW295 := hz_ hg HB; have GE295 := hz_ hg HB; replace HB := hs HB hb; clear hb hbox hg) | ((with_reducible refine gate_dst (N := 2) rfl ?_); refine box_event ?hg (N := 2) ?hd (cs := #[.int .i64 0, .int .i64 0]) (t := 24) ?hr ?_; (case hd => rfl); (case hg => rfl); (case hr => first | (go_simp; done) | (go_simp; rfl)); intro gb296 hg w7 hbox hb; have BK296 := Aside0.mk (hbox); have GW296 := bz' HB hg (by repeat first | (with_reducible exact HB.out) | refine bl1 ?_ | (with_reducible refine bset ?_ ‹_›) | exact HB.out); have GE296 := bz' HB hg (by repeat first | (with_reducible exact HB.out) | refine bl1 ?_ | (with_reducible refine bset ?_ ‹_›) | exact HB.out); have NB295_296 := nlk hg BK295; have NB296_295 := ngk hg BK295; replace BK295 := kb BK295 hb; replace HB := hs' HB (by repeat first | (with_reducible exact HB.out) | refine bl1 ?_ | (with_reducible refine bset ?_ ‹_›) | exact HB.out) hb; clear hb hbox hg; have hnb8 := NB295_296.out; have hnc8 := NB296_295.out; have hcz9_0 : w7.cell? ⟨gb295, 0, none⟩ = some (.int .i64 a0_0) := (blk_cell BK295.out 0).trans rfl; have hcz9_1 : w7.cell? ⟨gb295, 1, none⟩ = some (.int .i64 a0_1) := (blk_cell BK295.out 1).trans rfl; have hfz9_0 := blk_frozen BK295.out 0; have hfz9_1 := blk_frozen BK295.out 1) | ((with_reducible refine gate_callee (f := 34) rfl ?_); refine goesL_ (some 4) rfl rfl Try.func34 (by kernel_rfl) rfl #[.agg #[.int .i64 a0_0, .int .i64 a0_1]] rfl (by (try simp only [mp]); first | done | rfl | (simp only [ld]; rfl)) ?_; (with_reducible refine (serinetteref01_Is.calls k a0_0 a0_1 true _ A2.out).mono ?_); rintro e w10 ⟨rfl, hb⟩; refine ⟨_, rfl, ?_⟩; replace BK295 := kb BK295 hb; replace BK296 := kb BK296 hb; replace HB := hs' HB (by repeat first | (with_reducible exact HB.out) | refine bl1 ?_ | (with_reducible refine bset ?_ ‹_›) | exact HB.out) hb; (try clear hb); (try clear hb2); (try clear hk); (try clear hi); have hcz11_0 : w10.cell? ⟨gb295, 0, none⟩ = some (.int .i64 a0_0) := (blk_cell BK295.out 0).trans rfl; have hcz11_1 : w10.cell? ⟨gb295, 1, none⟩ = some (.int .i64 a0_1) := (blk_cell BK295.out 1).trans rfl; have hfz11_0 := blk_frozen BK295.out 0; have hfz11_1 := blk_frozen BK295.out 1) | ((with_reducible refine gate_callee (f := 63) rfl ?_); refine goesL_ (some 11) rfl rfl Try.func63 (by kernel_rfl) rfl #[.int .i64 a0_0, .int .i64 a0_1] rfl (by (try simp only [mp]); first | done | rfl | (simp only [ld]; rfl)) ?_; (with_reducible refine (serinetteref01_FloorDiv.calls a0_0 a0_1 t298 _ A4.out).mono ?_); rintro e w' ⟨rfl, ⟨nd, rfl⟩⟩; refine ⟨_, rfl, ?_⟩; (try (rw [drewN_self w10]; generalize hq_ : World.drewN w10 _ = w10; have n0_ : Aside0 (w10.heap[gb295]? = some (.cells #[.int .i64 a0_0, .int .i64 a0_1] 24 (0, 0))) := ⟨by rw [← hq_]; exact (bk BK295.out)⟩; have n1_ : Aside0 (w10.heap[gb296]? = some (.cells #[.int .i64 0, .int .i64 0] 24 (0, 0))) := ⟨by rw [← hq_]; exact (bk BK296.out)⟩; have n2_ : Aside0 (Below w.heap.size w w10) := ⟨by rw [← hq_]; exact (by repeat first | (with_reducible exact HB.out) | refine bl1 ?_ | (with_reducible refine bset ?_ ‹_›) | exact HB.out)⟩; clear BK295 BK296 HB hq_; have BK295 := n0_; have BK296 := n1_; have HB := n2_; clear n0_ n1_ n2_))) | ((with_reducible refine gate_callee (f := 52) rfl ?_); refine goesL_ (some 12) rfl rfl Try.func52 (by kernel_rfl) rfl #[.int .i64 t298] rfl (by (try simp only [mp]); first | done | rfl | (simp only [ld]; rfl)) ?_; (with_reducible refine (serinetteref01_Whole.calls k t298 t299 t300 _ A5.out).mono ?_); rintro e w12 ⟨rfl, hb⟩; refine ⟨_, rfl, ?_⟩; replace BK295 := kb BK295 hb; replace BK296 := kb BK296 hb; replace HB := hs' HB (by repeat first | (with_reducible exact HB.out) | refine bl1 ?_ | (with_reducible refine bset ?_ ‹_›) | exact HB.out) hb; (try clear hb); (try clear hb2); (try clear hk); (try clear hi); have hcz13_0 : w12.cell? ⟨gb296, 0, none⟩ = some (.int .i64 0) := (blk_cell BK296.out 0).trans rfl; have hcz13_1 : w12.cell? ⟨gb296, 1, none⟩ = some (.int .i64 0) := (blk_cell BK296.out 1).trans rfl; have hfz13_0 := blk_frozen BK296.out 0; have hfz13_1 := blk_frozen BK296.out 1))
  refine bodyPost_ret (results_cell_row rfl _ _ gb296 24 #[.int .i64 t299, .int .i64 t300] (0, 0) _ rfl (by refine bk ?_; refine blk_put (cs := #[.int .i64 t299, .int .i64 0]) ?_ 1 _ rfl; refine bk ?_; refine blk_put (cs := #[.int .i64 0, .int .i64 0]) ?_ 0 _ rfl; refine bk ?_; exact BK296.out) Try.underlying24 rfl (by kernel_rfl)) rfl ?_
  exact ⟨by first | rfl | (simp [errW_none, errW_some] <;> rfl) | (simp [*, errW_none, errW_some] <;> rfl), by repeat first | exact HB.out | refine bset ?_ ‹_› | apply below_alloc | apply pw_below_drewN | apply below_drew1⟩
 ·
  replace c3 := Bool.eq_false_iff.mpr c3
  subst c3
  rw [if_neg (show ¬ (false = true) by decide)] at H
  replace H := Option.bind_eq_some_iff.mp H
  obtain ⟨⟨t301, t302⟩, A140, H⟩ := H
  (try dsimp only at H)
  have A14 := Aside0.mk A140
  clear A140
  simp only [Option.some.injEq, Prod.mk.injEq] at H
  obtain ⟨rfl, rfl⟩ := H
  go_enter Try.func46, Try.ntmps46
  go_wp2_with (first | ((with_reducible refine gate_dst (N := 1) rfl ?_); refine box_event ?hg (N := 1) ?hd (cs := #[.int .i64 a0_0, .int .i64 a0_1]) (t := 24) ?hr ?_; (case hd => rfl); (case hg => rfl); (case hr => first | (go_simp; done) | (go_simp; rfl)); intro gb295 hg w15 hbox hb; have BK295 := Aside0.mk (hbox); have GW295 := hz_ hg HB; have GE295 := hz_ hg HB; replace HB := hs HB hb; clear hb hbox hg) | ((with_reducible refine gate_dst (N := 2) rfl ?_); refine box_event ?hg (N := 2) ?hd (cs := #[.int .i64 0, .int .i64 0]) (t := 24) ?hr ?_; (case hd => rfl); (case hg => rfl); (case hr => first | (go_simp; done) | (go_simp; rfl)); intro gb296 hg w16 hbox hb; have BK296 := Aside0.mk (hbox); have GW296 := bz' HB hg (by repeat first | (with_reducible exact HB.out) | refine bl1 ?_ | (with_reducible refine bset ?_ ‹_›) | exact HB.out); have GE296 := bz' HB hg (by repeat first | (with_reducible exact HB.out) | refine bl1 ?_ | (with_reducible refine bset ?_ ‹_›) | exact HB.out); have NB295_296 := nlk hg BK295; have NB296_295 := ngk hg BK295; replace BK295 := kb BK295 hb; replace HB := hs' HB (by repeat first | (with_reducible exact HB.out) | refine bl1 ?_ | (with_reducible refine bset ?_ ‹_›) | exact HB.out) hb; clear hb hbox hg; have hnb17 := NB295_296.out; have hnc17 := NB296_295.out; have hcz18_0 : w16.cell? ⟨gb295, 0, none⟩ = some (.int .i64 a0_0) := (blk_cell BK295.out 0).trans rfl; have hcz18_1 : w16.cell? ⟨gb295, 1, none⟩ = some (.int .i64 a0_1) := (blk_cell BK295.out 1).trans rfl; have hfz18_0 := blk_frozen BK295.out 0; have hfz18_1 := blk_frozen BK295.out 1) | ((with_reducible refine gate_callee (f := 34) rfl ?_); refine goesL_ (some 4) rfl rfl Try.func34 (by kernel_rfl) rfl #[.agg #[.int .i64 a0_0, .int .i64 a0_1]] rfl (by (try simp only [mp]); first | done | rfl | (simp only [ld]; rfl)) ?_; (with_reducible refine (serinetteref01_Is.calls k a0_0 a0_1 false _ A2.out).mono ?_); rintro e w19 ⟨rfl, hb⟩; refine ⟨_, rfl, ?_⟩; replace BK295 := kb BK295 hb; replace BK296 := kb BK296 hb; replace HB := hs' HB (by repeat first | (with_reducible exact HB.out) | refine bl1 ?_ | (with_reducible refine bset ?_ ‹_›) | exact HB.out) hb; (try clear hb); (try clear hb2); (try clear hk); (try clear hi)) | ((with_reducible refine gate_callee (f := 53) rfl ?_); refine goesL_ (some 6) rfl rfl Try.func53 (by kernel_rfl) rfl #[] rfl (by (try simp only [mp]); first | done | rfl | (simp only [ld]; rfl)) ?_; (with_reducible refine (serinetteref01_None.calls  t301 t302 _ A14.out).mono ?_); rintro e w20 ⟨rfl, hb⟩; refine ⟨_, rfl, ?_⟩; replace BK295 := kb BK295 hb; replace BK296 := kb BK296 hb; replace HB := hs' HB (by repeat first | (with_reducible exact HB.out) | refine bl1 ?_ | (with_reducible refine bset ?_ ‹_›) | exact HB.out) hb; (try clear hb); (try clear hb2); (try clear hk); (try clear hi); have hcz21_0 : w20.cell? ⟨gb296, 0, none⟩ = some (.int .i64 0) := (blk_cell BK296.out 0).trans rfl; have hcz21_1 : w20.cell? ⟨gb296, 1, none⟩ = some (.int .i64 0) := (blk_cell BK296.out 1).trans rfl; have hfz21_0 := blk_frozen BK296.out 0; have hfz21_1 := blk_frozen BK296.out 1))
  refine bodyPost_ret (results_cell_row rfl _ _ gb296 24 #[.int .i64 t301, .int .i64 t302] (0, 0) _ rfl (by refine bk ?_; refine blk_put (cs := #[.int .i64 t301, .int .i64 0]) ?_ 1 _ rfl; refine bk ?_; refine blk_put (cs := #[.int .i64 0, .int .i64 0]) ?_ 0 _ rfl; refine bk ?_; exact BK296.out) Try.underlying24 rfl (by kernel_rfl)) rfl ?_
  exact ⟨by first | rfl | (simp [errW_none, errW_some] <;> rfl) | (simp [*, errW_none, errW_some] <;> rfl), by repeat first | exact HB.out | refine bset ?_ ‹_› | apply below_alloc | apply pw_below_drewN | apply below_drew1⟩

/-! ### serinetteref01_Round: function 47 -/
def serinetteref01_Round.f (k : Nat) (a0_0 : Int) (a0_1 : Int) : Option (Int × Int) := (serinetteref01_Is.f k a0_0 a0_1).bind fun t305 => (if t305 = true then ((serinetteref01_FloorDiv.f a0_0 a0_1).bind fun t308 => (if (wrap64 (2 * (wrap64 (a0_0 - (wrap64 (t308 * a0_1)))))) > a0_1 then ((serinetteref01_Whole.f k (wrap64 (t308 + 1))).bind fun bt309 => (some (bt309.1, bt309.2))) else (if (wrap64 (2 * (wrap64 (a0_0 - (wrap64 (t308 * a0_1)))))) = a0_1 then (if (Int.tmod t308 2) = 0 then ((serinetteref01_Whole.f k t308).bind fun bt311 => (some (bt311.1, bt311.2))) else ((serinetteref01_Whole.f k (wrap64 (t308 + 1))).bind fun bt313 => (some (bt313.1, bt313.2)))) else ((serinetteref01_Whole.f k t308).bind fun bt315 => (some (bt315.1, bt315.2)))))) else ((serinetteref01_None.f).bind fun bt306 => (some (bt306.1, bt306.2))))
theorem serinetteref01_Round.mono : ∀ a0 a1 k, LeO (serinetteref01_Round.f k a0 a1) (serinetteref01_Round.f (k + 1) a0 a1) := by
 intro a0 a1 k
 unfold serinetteref01_Round.f
 repeat' first
   | (with_reducible exact serinetteref01_Is.mono _ _ _)
   | (with_reducible exact serinetteref01_Whole.mono _ _)
   | (with_reducible exact LeO.refl _)
   | (with_reducible exact LeO.none _)
   | (with_reducible refine LeO.ite ?_ ?_)
   | (with_reducible refine LeO.bind ?_ (fun _ => ?_))
   | exact serinetteref01_Is.mono _ _ _
   | exact serinetteref01_Whole.mono _ _
   | exact LeO.none _
   | refine LeO.ite ?_ ?_
   | refine LeO.bind ?_ (fun _ => ?_)
set_option maxHeartbeats 8000000 in
set_option maxRecDepth 100000 in
theorem serinetteref01_Round.calls (k : Nat) (a0_0 : Int) (a0_1 : Int) (r1 : Int) (r2 : Int) (w : World) (h : serinetteref01_Round.f k a0_0 a0_1 = some (r1, r2)) :
  Calls Try.prog 47 #[.agg #[.int .i64 a0_0, .int .i64 a0_1]] w fun e w' => e = .returned (.agg #[.int .i64 r1, .int .i64 r2]) ∧ Below w.heap.size w w' := by
 have hu24 := Try.underlying24
 have HB := Aside0.mk (Below.refl w.heap.size w)
 have H : ((serinetteref01_Is.f k a0_0 a0_1).bind fun t305 => (if t305 = true then ((serinetteref01_FloorDiv.f a0_0 a0_1).bind fun t308 => (if (wrap64 (2 * (wrap64 (a0_0 - (wrap64 (t308 * a0_1)))))) > a0_1 then ((serinetteref01_Whole.f k (wrap64 (t308 + 1))).bind fun bt309 => (some (bt309.1, bt309.2))) else (if (wrap64 (2 * (wrap64 (a0_0 - (wrap64 (t308 * a0_1)))))) = a0_1 then (if (Int.tmod t308 2) = 0 then ((serinetteref01_Whole.f k t308).bind fun bt311 => (some (bt311.1, bt311.2))) else ((serinetteref01_Whole.f k (wrap64 (t308 + 1))).bind fun bt313 => (some (bt313.1, bt313.2)))) else ((serinetteref01_Whole.f k t308).bind fun bt315 => (some (bt315.1, bt315.2)))))) else ((serinetteref01_None.f).bind fun bt306 => (some (bt306.1, bt306.2))))) = some (r1, r2) := h
 clear h
 replace H := Option.bind_eq_some_iff.mp H
 obtain ⟨t305, A20, H⟩ := H
 (try dsimp only at H)
 have A2 := Aside0.mk A20
 clear A20
 by_cases c3 : t305 = true
 ·
  subst c3
  rw [if_pos rfl] at H
  replace H := Option.bind_eq_some_iff.mp H
  obtain ⟨t308, A40, H⟩ := H
  (try dsimp only at H)
  have A4 := Aside0.mk A40
  clear A40
  by_cases c5 : (wrap64 (2 * (wrap64 (a0_0 - (wrap64 (t308 * a0_1)))))) > a0_1
  ·
   rw [if_pos c5] at H
   have c5b0 : decide (a0_1 < (wrap64 (2 * (wrap64 (a0_0 - (wrap64 (t308 * a0_1))))))) = true := decide_eq_true c5
   clear c5
   replace H := Option.bind_eq_some_iff.mp H
   obtain ⟨⟨t309, t310⟩, A60, H⟩ := H
   (try dsimp only at H)
   have A6 := Aside0.mk A60
   clear A60
   simp only [Option.some.injEq, Prod.mk.injEq] at H
   obtain ⟨rfl, rfl⟩ := H
   go_enter Try.func47, Try.ntmps47
   go_wp2_with (first | ((with_reducible refine gate_dst (N := 1) rfl ?_); refine box_event ?hg (N := 1) ?hd (cs := #[.int .i64 a0_0, .int .i64 a0_1]) (t := 24) ?hr ?_; (case hd => rfl); (case hg => rfl); (case hr => first | (go_simp; done) | (go_simp; rfl)); intro gb303 hg w7 hbox hb; have BK303 := Aside0.mk (hbox); have GW303 := hz_ hg HB; have GE303 := hz_ hg HB; replace HB := hs HB hb; clear hb hbox hg) | ((with_reducible refine gate_dst (N := 2) rfl ?_); refine box_event ?hg (N := 2) ?hd (cs := #[.int .i64 0, .int .i64 0]) (t := 24) ?hr ?_; (case hd => rfl); (case hg => rfl); (case hr => first | (go_simp; done) | (go_simp; rfl)); intro gb304 hg w8 hbox hb; have BK304 := Aside0.mk (hbox); have GW304 := bz' HB hg (by repeat first | (with_reducible exact HB.out) | refine bl1 ?_ | (with_reducible refine bset ?_ ‹_›) | exact HB.out); have GE304 := bz' HB hg (by repeat first | (with_reducible exact HB.out) | refine bl1 ?_ | (with_reducible refine bset ?_ ‹_›) | exact HB.out); have NB303_304 := nlk hg BK303; have NB304_303 := ngk hg BK303; replace BK303 := kb BK303 hb; replace HB := hs' HB (by repeat first | (with_reducible exact HB.out) | refine bl1 ?_ | (with_reducible refine bset ?_ ‹_›) | exact HB.out) hb; clear hb hbox hg; have hnb9 := NB303_304.out; have hnc9 := NB304_303.out; have hcz10_0 : w8.cell? ⟨gb303, 0, none⟩ = some (.int .i64 a0_0) := (blk_cell BK303.out 0).trans rfl; have hcz10_1 : w8.cell? ⟨gb303, 1, none⟩ = some (.int .i64 a0_1) := (blk_cell BK303.out 1).trans rfl; have hfz10_0 := blk_frozen BK303.out 0; have hfz10_1 := blk_frozen BK303.out 1) | ((with_reducible refine gate_callee (f := 34) rfl ?_); refine goesL_ (some 6) rfl rfl Try.func34 (by kernel_rfl) rfl #[.agg #[.int .i64 a0_0, .int .i64 a0_1]] rfl (by (try simp only [mp]); first | done | rfl | (simp only [ld]; rfl)) ?_; (with_reducible refine (serinetteref01_Is.calls k a0_0 a0_1 true _ A2.out).mono ?_); rintro e w11 ⟨rfl, hb⟩; refine ⟨_, rfl, ?_⟩; replace BK303 := kb BK303 hb; replace BK304 := kb BK304 hb; replace HB := hs' HB (by repeat first | (with_reducible exact HB.out) | refine bl1 ?_ | (with_reducible refine bset ?_ ‹_›) | exact HB.out) hb; (try clear hb); (try clear hb2); (try clear hk); (try clear hi); have hcz12_0 : w11.cell? ⟨gb303, 0, none⟩ = some (.int .i64 a0_0) := (blk_cell BK303.out 0).trans rfl; have hcz12_1 : w11.cell? ⟨gb303, 1, none⟩ = some (.int .i64 a0_1) := (blk_cell BK303.out 1).trans rfl; have hfz12_0 := blk_frozen BK303.out 0; have hfz12_1 := blk_frozen BK303.out 1) | ((with_reducible refine gate_callee (f := 63) rfl ?_); refine goesL_ (some 13) rfl rfl Try.func63 (by kernel_rfl) rfl #[.int .i64 a0_0, .int .i64 a0_1] rfl (by (try simp only [mp]); first | done | rfl | (simp only [ld]; rfl)) ?_; (with_reducible refine (serinetteref01_FloorDiv.calls a0_0 a0_1 t308 _ A4.out).mono ?_); rintro e w' ⟨rfl, ⟨nd, rfl⟩⟩; refine ⟨_, rfl, ?_⟩; skip) | ((with_reducible refine gate_callee (f := 52) rfl ?_); refine goesL_ (some 41) rfl rfl Try.func52 (by kernel_rfl) rfl #[.int .i64 (wrap64 (t308 + 1))] rfl (by (try simp only [mp]); first | done | rfl | (simp only [ld]; rfl)) ?_; (with_reducible refine (serinetteref01_Whole.calls k (wrap64 (t308 + 1)) t309 t310 _ A6.out).mono ?_); rintro e w13 ⟨rfl, hb⟩; refine ⟨_, rfl, ?_⟩; replace BK303 := kb BK303 hb; replace BK304 := kb BK304 hb; replace HB := hs' HB (by repeat first | (with_reducible exact HB.out) | refine bl1 ?_ | (with_reducible refine bset ?_ ‹_›) | exact HB.out) hb; (try clear hb); (try clear hb2); (try clear hk); (try clear hi); have hcz14_0 : w13.cell? ⟨gb304, 0, none⟩ = some (.int .i64 0) := (blk_cell BK304.out 0).trans rfl; have hcz14_1 : w13.cell? ⟨gb304, 1, none⟩ = some (.int .i64 0) := (blk_cell BK304.out 1).trans rfl; have hfz14_0 := blk_frozen BK304.out 0; have hfz14_1 := blk_frozen BK304.out 1))
   refine bodyPost_ret (results_cell_row rfl _ _ gb304 24 #[.int .i64 t309, .int .i64 t310] (0, 0) _ rfl (by refine bk ?_; refine blk_put (cs := #[.int .i64 t309, .int .i64 0]) ?_ 1 _ rfl; refine bk ?_; refine blk_put (cs := #[.int .i64 0, .int .i64 0]) ?_ 0 _ rfl; refine bk ?_; exact BK304.out) Try.underlying24 rfl (by kernel_rfl)) rfl ?_
   exact ⟨by first | rfl | (simp [errW_none, errW_some] <;> rfl) | (simp [*, errW_none, errW_some] <;> rfl), by repeat first | exact HB.out | refine bset ?_ ‹_› | apply below_alloc | apply pw_below_drewN | apply below_drew1⟩
  ·
   rw [if_neg c5] at H
   have c5b0 : decide (a0_1 < (wrap64 (2 * (wrap64 (a0_0 - (wrap64 (t308 * a0_1))))))) = false := decide_eq_false c5
   clear c5
   by_cases c15 : (wrap64 (2 * (wrap64 (a0_0 - (wrap64 (t308 * a0_1)))))) = a0_1
   ·
    rw [if_pos c15] at H
    have c15b0 : ((wrap64 (2 * (wrap64 (a0_0 - (wrap64 (t308 * a0_1)))))) == a0_1) = true := beq_iff_eq.mpr c15
    have c15b1 : ((wrap64 (2 * (wrap64 (a0_0 - (wrap64 (t308 * a0_1)))))) != a0_1) = false := bne_eq_false_iff_eq.mpr c15
    clear c15
    by_cases c16 : (Int.tmod t308 2) = 0
    ·
     rw [if_pos c16] at H
     have c16b0 : ((Int.tmod t308 2) == 0) = true := beq_iff_eq.mpr c16
     have c16b1 : ((Int.tmod t308 2) != 0) = false := bne_eq_false_iff_eq.mpr c16
     clear c16
     replace H := Option.bind_eq_some_iff.mp H
     obtain ⟨⟨t311, t312⟩, A170, H⟩ := H
     (try dsimp only at H)
     have A17 := Aside0.mk A170
     clear A170
     simp only [Option.some.injEq, Prod.mk.injEq] at H
     obtain ⟨rfl, rfl⟩ := H
     go_enter Try.func47, Try.ntmps47
     go_wp2_with (first | ((with_reducible refine gate_dst (N := 1) rfl ?_); refine box_event ?hg (N := 1) ?hd (cs := #[.int .i64 a0_0, .int .i64 a0_1]) (t := 24) ?hr ?_; (case hd => rfl); (case hg => rfl); (case hr => first | (go_simp; done) | (go_simp; rfl)); intro gb303 hg w18 hbox hb; have BK303 := Aside0.mk (hbox); have GW303 := hz_ hg HB; have GE303 := hz_ hg HB; replace HB := hs HB hb; clear hb hbox hg) | ((with_reducible refine gate_dst (N := 2) rfl ?_); refine box_event ?hg (N := 2) ?hd (cs := #[.int .i64 0, .int .i64 0]) (t := 24) ?hr ?_; (case hd => rfl); (case hg => rfl); (case hr => first | (go_simp; done) | (go_simp; rfl)); intro gb304 hg w19 hbox hb; have BK304 := Aside0.mk (hbox); have GW304 := bz' HB hg (by repeat first | (with_reducible exact HB.out) | refine bl1 ?_ | (with_reducible refine bset ?_ ‹_›) | exact HB.out); have GE304 := bz' HB hg (by repeat first | (with_reducible exact HB.out) | refine bl1 ?_ | (with_reducible refine bset ?_ ‹_›) | exact HB.out); have NB303_304 := nlk hg BK303; have NB304_303 := ngk hg BK303; replace BK303 := kb BK303 hb; replace HB := hs' HB (by repeat first | (with_reducible exact HB.out) | refine bl1 ?_ | (with_reducible refine bset ?_ ‹_›) | exact HB.out) hb; clear hb hbox hg; have hnb20 := NB303_304.out; have hnc20 := NB304_303.out; have hcz21_0 : w19.cell? ⟨gb303, 0, none⟩ = some (.int .i64 a0_0) := (blk_cell BK303.out 0).trans rfl; have hcz21_1 : w19.cell? ⟨gb303, 1, none⟩ = some (.int .i64 a0_1) := (blk_cell BK303.out 1).trans rfl; have hfz21_0 := blk_frozen BK303.out 0; have hfz21_1 := blk_frozen BK303.out 1) | ((with_reducible refine gate_callee (f := 34) rfl ?_); refine goesL_ (some 6) rfl rfl Try.func34 (by kernel_rfl) rfl #[.agg #[.int .i64 a0_0, .int .i64 a0_1]] rfl (by (try simp only [mp]); first | done | rfl | (simp only [ld]; rfl)) ?_; (with_reducible refine (serinetteref01_Is.calls k a0_0 a0_1 true _ A2.out).mono ?_); rintro e w22 ⟨rfl, hb⟩; refine ⟨_, rfl, ?_⟩; replace BK303 := kb BK303 hb; replace BK304 := kb BK304 hb; replace HB := hs' HB (by repeat first | (with_reducible exact HB.out) | refine bl1 ?_ | (with_reducible refine bset ?_ ‹_›) | exact HB.out) hb; (try clear hb); (try clear hb2); (try clear hk); (try clear hi); have hcz23_0 : w22.cell? ⟨gb303, 0, none⟩ = some (.int .i64 a0_0) := (blk_cell BK303.out 0).trans rfl; have hcz23_1 : w22.cell? ⟨gb303, 1, none⟩ = some (.int .i64 a0_1) := (blk_cell BK303.out 1).trans rfl; have hfz23_0 := blk_frozen BK303.out 0; have hfz23_1 := blk_frozen BK303.out 1) | ((with_reducible refine gate_callee (f := 63) rfl ?_); refine goesL_ (some 13) rfl rfl Try.func63 (by kernel_rfl) rfl #[.int .i64 a0_0, .int .i64 a0_1] rfl (by (try simp only [mp]); first | done | rfl | (simp only [ld]; rfl)) ?_; (with_reducible refine (serinetteref01_FloorDiv.calls a0_0 a0_1 t308 _ A4.out).mono ?_); rintro e w' ⟨rfl, ⟨nd, rfl⟩⟩; refine ⟨_, rfl, ?_⟩; skip) | ((with_reducible refine gate_callee (f := 52) rfl ?_); refine goesL_ (some 41) rfl rfl Try.func52 (by kernel_rfl) rfl #[.int .i64 t308] rfl (by (try simp only [mp]); first | done | rfl | (simp only [ld]; rfl)) ?_; (with_reducible refine (serinetteref01_Whole.calls k t308 t311 t312 _ A17.out).mono ?_); rintro e w24 ⟨rfl, hb⟩; refine ⟨_, rfl, ?_⟩; replace BK303 := kb BK303 hb; replace BK304 := kb BK304 hb; replace HB := hs' HB (by repeat first | (with_reducible exact HB.out) | refine bl1 ?_ | (with_reducible refine bset ?_ ‹_›) | exact HB.out) hb; (try clear hb); (try clear hb2); (try clear hk); (try clear hi); have hcz25_0 : w24.cell? ⟨gb304, 0, none⟩ = some (.int .i64 0) := (blk_cell BK304.out 0).trans rfl; have hcz25_1 : w24.cell? ⟨gb304, 1, none⟩ = some (.int .i64 0) := (blk_cell BK304.out 1).trans rfl; have hfz25_0 := blk_frozen BK304.out 0; have hfz25_1 := blk_frozen BK304.out 1))
     refine bodyPost_ret (results_cell_row rfl _ _ gb304 24 #[.int .i64 t311, .int .i64 t312] (0, 0) _ rfl (by refine bk ?_; refine blk_put (cs := #[.int .i64 t311, .int .i64 0]) ?_ 1 _ rfl; refine bk ?_; refine blk_put (cs := #[.int .i64 0, .int .i64 0]) ?_ 0 _ rfl; refine bk ?_; exact BK304.out) Try.underlying24 rfl (by kernel_rfl)) rfl ?_
     exact ⟨by first | rfl | (simp [errW_none, errW_some] <;> rfl) | (simp [*, errW_none, errW_some] <;> rfl), by repeat first | exact HB.out | refine bset ?_ ‹_› | apply below_alloc | apply pw_below_drewN | apply below_drew1⟩
    ·
     rw [if_neg c16] at H
     have c16b0 : ((Int.tmod t308 2) == 0) = false := beq_eq_false_iff_ne.mpr c16
     have c16b1 : ((Int.tmod t308 2) != 0) = true := bne_iff_ne.mpr c16
     replace H := Option.bind_eq_some_iff.mp H
     obtain ⟨⟨t313, t314⟩, A260, H⟩ := H
     (try dsimp only at H)
     have A26 := Aside0.mk A260
     clear A260
     simp only [Option.some.injEq, Prod.mk.injEq] at H
     obtain ⟨rfl, rfl⟩ := H
     go_enter Try.func47, Try.ntmps47
     go_wp2_with (first | ((with_reducible refine gate_dst (N := 1) rfl ?_); refine box_event ?hg (N := 1) ?hd (cs := #[.int .i64 a0_0, .int .i64 a0_1]) (t := 24) ?hr ?_; (case hd => rfl); (case hg => rfl); (case hr => first | (go_simp; done) | (go_simp; rfl)); intro gb303 hg w27 hbox hb; have BK303 := Aside0.mk (hbox); have GW303 := hz_ hg HB; have GE303 := hz_ hg HB; replace HB := hs HB hb; clear hb hbox hg) | ((with_reducible refine gate_dst (N := 2) rfl ?_); refine box_event ?hg (N := 2) ?hd (cs := #[.int .i64 0, .int .i64 0]) (t := 24) ?hr ?_; (case hd => rfl); (case hg => rfl); (case hr => first | (go_simp; done) | (go_simp; rfl)); intro gb304 hg w28 hbox hb; have BK304 := Aside0.mk (hbox); have GW304 := bz' HB hg (by repeat first | (with_reducible exact HB.out) | refine bl1 ?_ | (with_reducible refine bset ?_ ‹_›) | exact HB.out); have GE304 := bz' HB hg (by repeat first | (with_reducible exact HB.out) | refine bl1 ?_ | (with_reducible refine bset ?_ ‹_›) | exact HB.out); have NB303_304 := nlk hg BK303; have NB304_303 := ngk hg BK303; replace BK303 := kb BK303 hb; replace HB := hs' HB (by repeat first | (with_reducible exact HB.out) | refine bl1 ?_ | (with_reducible refine bset ?_ ‹_›) | exact HB.out) hb; clear hb hbox hg; have hnb29 := NB303_304.out; have hnc29 := NB304_303.out; have hcz30_0 : w28.cell? ⟨gb303, 0, none⟩ = some (.int .i64 a0_0) := (blk_cell BK303.out 0).trans rfl; have hcz30_1 : w28.cell? ⟨gb303, 1, none⟩ = some (.int .i64 a0_1) := (blk_cell BK303.out 1).trans rfl; have hfz30_0 := blk_frozen BK303.out 0; have hfz30_1 := blk_frozen BK303.out 1) | ((with_reducible refine gate_callee (f := 34) rfl ?_); refine goesL_ (some 6) rfl rfl Try.func34 (by kernel_rfl) rfl #[.agg #[.int .i64 a0_0, .int .i64 a0_1]] rfl (by (try simp only [mp]); first | done | rfl | (simp only [ld]; rfl)) ?_; (with_reducible refine (serinetteref01_Is.calls k a0_0 a0_1 true _ A2.out).mono ?_); rintro e w31 ⟨rfl, hb⟩; refine ⟨_, rfl, ?_⟩; replace BK303 := kb BK303 hb; replace BK304 := kb BK304 hb; replace HB := hs' HB (by repeat first | (with_reducible exact HB.out) | refine bl1 ?_ | (with_reducible refine bset ?_ ‹_›) | exact HB.out) hb; (try clear hb); (try clear hb2); (try clear hk); (try clear hi); have hcz32_0 : w31.cell? ⟨gb303, 0, none⟩ = some (.int .i64 a0_0) := (blk_cell BK303.out 0).trans rfl; have hcz32_1 : w31.cell? ⟨gb303, 1, none⟩ = some (.int .i64 a0_1) := (blk_cell BK303.out 1).trans rfl; have hfz32_0 := blk_frozen BK303.out 0; have hfz32_1 := blk_frozen BK303.out 1) | ((with_reducible refine gate_callee (f := 63) rfl ?_); refine goesL_ (some 13) rfl rfl Try.func63 (by kernel_rfl) rfl #[.int .i64 a0_0, .int .i64 a0_1] rfl (by (try simp only [mp]); first | done | rfl | (simp only [ld]; rfl)) ?_; (with_reducible refine (serinetteref01_FloorDiv.calls a0_0 a0_1 t308 _ A4.out).mono ?_); rintro e w' ⟨rfl, ⟨nd, rfl⟩⟩; refine ⟨_, rfl, ?_⟩; skip) | ((with_reducible refine gate_callee (f := 52) rfl ?_); refine goesL_ (some 41) rfl rfl Try.func52 (by kernel_rfl) rfl #[.int .i64 (wrap64 (t308 + 1))] rfl (by (try simp only [mp]); first | done | rfl | (simp only [ld]; rfl)) ?_; (with_reducible refine (serinetteref01_Whole.calls k (wrap64 (t308 + 1)) t313 t314 _ A26.out).mono ?_); rintro e w33 ⟨rfl, hb⟩; refine ⟨_, rfl, ?_⟩; replace BK303 := kb BK303 hb; replace BK304 := kb BK304 hb; replace HB := hs' HB (by repeat first | (with_reducible exact HB.out) | refine bl1 ?_ | (with_reducible refine bset ?_ ‹_›) | exact HB.out) hb; (try clear hb); (try clear hb2); (try clear hk); (try clear hi); have hcz34_0 : w33.cell? ⟨gb304, 0, none⟩ = some (.int .i64 0) := (blk_cell BK304.out 0).trans rfl; have hcz34_1 : w33.cell? ⟨gb304, 1, none⟩ = some (.int .i64 0) := (blk_cell BK304.out 1).trans rfl; have hfz34_0 := blk_frozen BK304.out 0; have hfz34_1 := blk_frozen BK304.out 1))
     refine bodyPost_ret (results_cell_row rfl _ _ gb304 24 #[.int .i64 t313, .int .i64 t314] (0, 0) _ rfl (by refine bk ?_; refine blk_put (cs := #[.int .i64 t313, .int .i64 0]) ?_ 1 _ rfl; refine bk ?_; refine blk_put (cs := #[.int .i64 0, .int .i64 0]) ?_ 0 _ rfl; refine bk ?_; exact BK304.out) Try.underlying24 rfl (by kernel_rfl)) rfl ?_
     exact ⟨by first | rfl | (simp [errW_none, errW_some] <;> rfl) | (simp [*, errW_none, errW_some] <;> rfl), by repeat first | exact HB.out | refine bset ?_ ‹_› | apply below_alloc | apply pw_below_drewN | apply below_drew1⟩
   ·
    rw [if_neg c15] at H
    have c15b0 : ((wrap64 (2 * (wrap64 (a0_0 - (wrap64 (t308 * a0_1)))))) == a0_1) = false := beq_eq_false_iff_ne.mpr c15
    have c15b1 : ((wrap64 (2 * (wrap64 (a0_0 - (wrap64 (t308 * a0_1)))))) != a0_1) = true := bne_iff_ne.mpr c15
    replace H := Option.bind_eq_some_iff.mp H
    obtain ⟨⟨t315, t316⟩, A350, H⟩ := H
    (try dsimp only at H)
    have A35 := Aside0.mk A350
    clear A350
    simp only [Option.some.injEq, Prod.mk.injEq] at H
    obtain ⟨rfl, rfl⟩ := H
    go_enter Try.func47, Try.ntmps47
    go_wp2_with (first | ((with_reducible refine gate_dst (N := 1) rfl ?_); refine box_event ?hg (N := 1) ?hd (cs := #[.int .i64 a0_0, .int .i64 a0_1]) (t := 24) ?hr ?_; (case hd => rfl); (case hg => rfl); (case hr => first | (go_simp; done) | (go_simp; rfl)); intro gb303 hg w36 hbox hb; have BK303 := Aside0.mk (hbox); have GW303 := hz_ hg HB; have GE303 := hz_ hg HB; replace HB := hs HB hb; clear hb hbox hg) | ((with_reducible refine gate_dst (N := 2) rfl ?_); refine box_event ?hg (N := 2) ?hd (cs := #[.int .i64 0, .int .i64 0]) (t := 24) ?hr ?_; (case hd => rfl); (case hg => rfl); (case hr => first | (go_simp; done) | (go_simp; rfl)); intro gb304 hg w37 hbox hb; have BK304 := Aside0.mk (hbox); have GW304 := bz' HB hg (by repeat first | (with_reducible exact HB.out) | refine bl1 ?_ | (with_reducible refine bset ?_ ‹_›) | exact HB.out); have GE304 := bz' HB hg (by repeat first | (with_reducible exact HB.out) | refine bl1 ?_ | (with_reducible refine bset ?_ ‹_›) | exact HB.out); have NB303_304 := nlk hg BK303; have NB304_303 := ngk hg BK303; replace BK303 := kb BK303 hb; replace HB := hs' HB (by repeat first | (with_reducible exact HB.out) | refine bl1 ?_ | (with_reducible refine bset ?_ ‹_›) | exact HB.out) hb; clear hb hbox hg; have hnb38 := NB303_304.out; have hnc38 := NB304_303.out; have hcz39_0 : w37.cell? ⟨gb303, 0, none⟩ = some (.int .i64 a0_0) := (blk_cell BK303.out 0).trans rfl; have hcz39_1 : w37.cell? ⟨gb303, 1, none⟩ = some (.int .i64 a0_1) := (blk_cell BK303.out 1).trans rfl; have hfz39_0 := blk_frozen BK303.out 0; have hfz39_1 := blk_frozen BK303.out 1) | ((with_reducible refine gate_callee (f := 34) rfl ?_); refine goesL_ (some 6) rfl rfl Try.func34 (by kernel_rfl) rfl #[.agg #[.int .i64 a0_0, .int .i64 a0_1]] rfl (by (try simp only [mp]); first | done | rfl | (simp only [ld]; rfl)) ?_; (with_reducible refine (serinetteref01_Is.calls k a0_0 a0_1 true _ A2.out).mono ?_); rintro e w40 ⟨rfl, hb⟩; refine ⟨_, rfl, ?_⟩; replace BK303 := kb BK303 hb; replace BK304 := kb BK304 hb; replace HB := hs' HB (by repeat first | (with_reducible exact HB.out) | refine bl1 ?_ | (with_reducible refine bset ?_ ‹_›) | exact HB.out) hb; (try clear hb); (try clear hb2); (try clear hk); (try clear hi); have hcz41_0 : w40.cell? ⟨gb303, 0, none⟩ = some (.int .i64 a0_0) := (blk_cell BK303.out 0).trans rfl; have hcz41_1 : w40.cell? ⟨gb303, 1, none⟩ = some (.int .i64 a0_1) := (blk_cell BK303.out 1).trans rfl; have hfz41_0 := blk_frozen BK303.out 0; have hfz41_1 := blk_frozen BK303.out 1) | ((with_reducible refine gate_callee (f := 63) rfl ?_); refine goesL_ (some 13) rfl rfl Try.func63 (by kernel_rfl) rfl #[.int .i64 a0_0, .int .i64 a0_1] rfl (by (try simp only [mp]); first | done | rfl | (simp only [ld]; rfl)) ?_; (with_reducible refine (serinetteref01_FloorDiv.calls a0_0 a0_1 t308 _ A4.out).mono ?_); rintro e w' ⟨rfl, ⟨nd, rfl⟩⟩; refine ⟨_, rfl, ?_⟩; skip) | ((with_reducible refine gate_callee (f := 52) rfl ?_); refine goesL_ (some 41) rfl rfl Try.func52 (by kernel_rfl) rfl #[.int .i64 t308] rfl (by (try simp only [mp]); first | done | rfl | (simp only [ld]; rfl)) ?_; (with_reducible refine (serinetteref01_Whole.calls k t308 t315 t316 _ A35.out).mono ?_); rintro e w42 ⟨rfl, hb⟩; refine ⟨_, rfl, ?_⟩; replace BK303 := kb BK303 hb; replace BK304 := kb BK304 hb; replace HB := hs' HB (by repeat first | (with_reducible exact HB.out) | refine bl1 ?_ | (with_reducible refine bset ?_ ‹_›) | exact HB.out) hb; (try clear hb); (try clear hb2); (try clear hk); (try clear hi); have hcz43_0 : w42.cell? ⟨gb304, 0, none⟩ = some (.int .i64 0) := (blk_cell BK304.out 0).trans rfl; have hcz43_1 : w42.cell? ⟨gb304, 1, none⟩ = some (.int .i64 0) := (blk_cell BK304.out 1).trans rfl; have hfz43_0 := blk_frozen BK304.out 0; have hfz43_1 := blk_frozen BK304.out 1))
    refine bodyPost_ret (results_cell_row rfl _ _ gb304 24 #[.int .i64 t315, .int .i64 t316] (0, 0) _ rfl (by refine bk ?_; refine blk_put (cs := #[.int .i64 t315, .int .i64 0]) ?_ 1 _ rfl; refine bk ?_; refine blk_put (cs := #[.int .i64 0, .int .i64 0]) ?_ 0 _ rfl; refine bk ?_; exact BK304.out) Try.underlying24 rfl (by kernel_rfl)) rfl ?_
    exact ⟨by first | rfl | (simp [errW_none, errW_some] <;> rfl) | (simp [*, errW_none, errW_some] <;> rfl), by repeat first | exact HB.out | refine bset ?_ ‹_› | apply below_alloc | apply pw_below_drewN | apply below_drew1⟩
 ·
  replace c3 := Bool.eq_false_iff.mpr c3
  subst c3
  rw [if_neg (show ¬ (false = true) by decide)] at H
  replace H := Option.bind_eq_some_iff.mp H
  obtain ⟨⟨t306, t307⟩, A440, H⟩ := H
  (try dsimp only at H)
  have A44 := Aside0.mk A440
  clear A440
  simp only [Option.some.injEq, Prod.mk.injEq] at H
  obtain ⟨rfl, rfl⟩ := H
  go_enter Try.func47, Try.ntmps47
  go_wp2_with (first | ((with_reducible refine gate_dst (N := 1) rfl ?_); refine box_event ?hg (N := 1) ?hd (cs := #[.int .i64 a0_0, .int .i64 a0_1]) (t := 24) ?hr ?_; (case hd => rfl); (case hg => rfl); (case hr => first | (go_simp; done) | (go_simp; rfl)); intro gb303 hg w45 hbox hb; have BK303 := Aside0.mk (hbox); have GW303 := hz_ hg HB; have GE303 := hz_ hg HB; replace HB := hs HB hb; clear hb hbox hg) | ((with_reducible refine gate_dst (N := 2) rfl ?_); refine box_event ?hg (N := 2) ?hd (cs := #[.int .i64 0, .int .i64 0]) (t := 24) ?hr ?_; (case hd => rfl); (case hg => rfl); (case hr => first | (go_simp; done) | (go_simp; rfl)); intro gb304 hg w46 hbox hb; have BK304 := Aside0.mk (hbox); have GW304 := bz' HB hg (by repeat first | (with_reducible exact HB.out) | refine bl1 ?_ | (with_reducible refine bset ?_ ‹_›) | exact HB.out); have GE304 := bz' HB hg (by repeat first | (with_reducible exact HB.out) | refine bl1 ?_ | (with_reducible refine bset ?_ ‹_›) | exact HB.out); have NB303_304 := nlk hg BK303; have NB304_303 := ngk hg BK303; replace BK303 := kb BK303 hb; replace HB := hs' HB (by repeat first | (with_reducible exact HB.out) | refine bl1 ?_ | (with_reducible refine bset ?_ ‹_›) | exact HB.out) hb; clear hb hbox hg; have hnb47 := NB303_304.out; have hnc47 := NB304_303.out; have hcz48_0 : w46.cell? ⟨gb303, 0, none⟩ = some (.int .i64 a0_0) := (blk_cell BK303.out 0).trans rfl; have hcz48_1 : w46.cell? ⟨gb303, 1, none⟩ = some (.int .i64 a0_1) := (blk_cell BK303.out 1).trans rfl; have hfz48_0 := blk_frozen BK303.out 0; have hfz48_1 := blk_frozen BK303.out 1) | ((with_reducible refine gate_callee (f := 34) rfl ?_); refine goesL_ (some 6) rfl rfl Try.func34 (by kernel_rfl) rfl #[.agg #[.int .i64 a0_0, .int .i64 a0_1]] rfl (by (try simp only [mp]); first | done | rfl | (simp only [ld]; rfl)) ?_; (with_reducible refine (serinetteref01_Is.calls k a0_0 a0_1 false _ A2.out).mono ?_); rintro e w49 ⟨rfl, hb⟩; refine ⟨_, rfl, ?_⟩; replace BK303 := kb BK303 hb; replace BK304 := kb BK304 hb; replace HB := hs' HB (by repeat first | (with_reducible exact HB.out) | refine bl1 ?_ | (with_reducible refine bset ?_ ‹_›) | exact HB.out) hb; (try clear hb); (try clear hb2); (try clear hk); (try clear hi)) | ((with_reducible refine gate_callee (f := 53) rfl ?_); refine goesL_ (some 8) rfl rfl Try.func53 (by kernel_rfl) rfl #[] rfl (by (try simp only [mp]); first | done | rfl | (simp only [ld]; rfl)) ?_; (with_reducible refine (serinetteref01_None.calls  t306 t307 _ A44.out).mono ?_); rintro e w50 ⟨rfl, hb⟩; refine ⟨_, rfl, ?_⟩; replace BK303 := kb BK303 hb; replace BK304 := kb BK304 hb; replace HB := hs' HB (by repeat first | (with_reducible exact HB.out) | refine bl1 ?_ | (with_reducible refine bset ?_ ‹_›) | exact HB.out) hb; (try clear hb); (try clear hb2); (try clear hk); (try clear hi); have hcz51_0 : w50.cell? ⟨gb304, 0, none⟩ = some (.int .i64 0) := (blk_cell BK304.out 0).trans rfl; have hcz51_1 : w50.cell? ⟨gb304, 1, none⟩ = some (.int .i64 0) := (blk_cell BK304.out 1).trans rfl; have hfz51_0 := blk_frozen BK304.out 0; have hfz51_1 := blk_frozen BK304.out 1))
  refine bodyPost_ret (results_cell_row rfl _ _ gb304 24 #[.int .i64 t306, .int .i64 t307] (0, 0) _ rfl (by refine bk ?_; refine blk_put (cs := #[.int .i64 t306, .int .i64 0]) ?_ 1 _ rfl; refine bk ?_; refine blk_put (cs := #[.int .i64 0, .int .i64 0]) ?_ 0 _ rfl; refine bk ?_; exact BK304.out) Try.underlying24 rfl (by kernel_rfl)) rfl ?_
  exact ⟨by first | rfl | (simp [errW_none, errW_some] <;> rfl) | (simp [*, errW_none, errW_some] <;> rfl), by repeat first | exact HB.out | refine bset ?_ ‹_› | apply below_alloc | apply pw_below_drewN | apply below_drew1⟩

/-! ### serinetteref01_Frac: function 48 -/
def serinetteref01_Frac.f (k : Nat) (a0_0 : Int) (a0_1 : Int) : Option (Int × Int) := (serinetteref01_Floor.f k a0_0 a0_1).bind fun bt319 => ((serinetteref01_Sub.f k a0_0 a0_1 bt319.1 bt319.2).bind fun bt321 => (some (bt321.1, bt321.2)))
theorem serinetteref01_Frac.mono : ∀ a0 a1 k, LeO (serinetteref01_Frac.f k a0 a1) (serinetteref01_Frac.f (k + 1) a0 a1) := by
 intro a0 a1 k
 unfold serinetteref01_Frac.f
 repeat' first
   | (with_reducible exact serinetteref01_Floor.mono _ _ _)
   | (with_reducible exact serinetteref01_Sub.mono _ _ _ _ _)
   | (with_reducible exact LeO.refl _)
   | (with_reducible exact LeO.none _)
   | (with_reducible refine LeO.ite ?_ ?_)
   | (with_reducible refine LeO.bind ?_ (fun _ => ?_))
   | exact serinetteref01_Floor.mono _ _ _
   | exact serinetteref01_Sub.mono _ _ _ _ _
   | exact LeO.none _
   | refine LeO.ite ?_ ?_
   | refine LeO.bind ?_ (fun _ => ?_)
set_option maxHeartbeats 8000000 in
set_option maxRecDepth 100000 in
theorem serinetteref01_Frac.calls (k : Nat) (a0_0 : Int) (a0_1 : Int) (r1 : Int) (r2 : Int) (w : World) (h : serinetteref01_Frac.f k a0_0 a0_1 = some (r1, r2)) :
  Calls Try.prog 48 #[.agg #[.int .i64 a0_0, .int .i64 a0_1]] w fun e w' => e = .returned (.agg #[.int .i64 r1, .int .i64 r2]) ∧ Below w.heap.size w w' := by
 have hu24 := Try.underlying24
 have HB := Aside0.mk (Below.refl w.heap.size w)
 have H : ((serinetteref01_Floor.f k a0_0 a0_1).bind fun bt319 => ((serinetteref01_Sub.f k a0_0 a0_1 bt319.1 bt319.2).bind fun bt321 => (some (bt321.1, bt321.2)))) = some (r1, r2) := h
 clear h
 replace H := Option.bind_eq_some_iff.mp H
 obtain ⟨⟨t319, t320⟩, A20, H⟩ := H
 (try dsimp only at H)
 have A2 := Aside0.mk A20
 clear A20
 replace H := Option.bind_eq_some_iff.mp H
 obtain ⟨⟨t321, t322⟩, A30, H⟩ := H
 (try dsimp only at H)
 have A3 := Aside0.mk A30
 clear A30
 simp only [Option.some.injEq, Prod.mk.injEq] at H
 obtain ⟨rfl, rfl⟩ := H
 go_enter Try.func48, Try.ntmps48
 try go_wp2_with (first | ((with_reducible refine gate_dst (N := 1) rfl ?_); refine box_event ?hg (N := 1) ?hd (cs := #[.int .i64 a0_0, .int .i64 a0_1]) (t := 24) ?hr ?_; (case hd => rfl); (case hg => rfl); (case hr => first | (go_simp; done) | (go_simp; rfl)); intro gb317 hg w4 hbox hb; have BK317 := Aside0.mk (hbox); have GW317 := hz_ hg HB; have GE317 := hz_ hg HB; replace HB := hs HB hb; clear hb hbox hg) | ((with_reducible refine gate_dst (N := 2) rfl ?_); refine box_event ?hg (N := 2) ?hd (cs := #[.int .i64 0, .int .i64 0]) (t := 24) ?hr ?_; (case hd => rfl); (case hg => rfl); (case hr => first | (go_simp; done) | (go_simp; rfl)); intro gb318 hg w5 hbox hb; have BK318 := Aside0.mk (hbox); have GW318 := bz' HB hg (by repeat first | (with_reducible exact HB.out) | refine bl1 ?_ | (with_reducible refine bset ?_ ‹_›) | exact HB.out); have GE318 := bz' HB hg (by repeat first | (with_reducible exact HB.out) | refine bl1 ?_ | (with_reducible refine bset ?_ ‹_›) | exact HB.out); have NB317_318 := nlk hg BK317; have NB318_317 := ngk hg BK317; replace BK317 := kb BK317 hb; replace HB := hs' HB (by repeat first | (with_reducible exact HB.out) | refine bl1 ?_ | (with_reducible refine bset ?_ ‹_›) | exact HB.out) hb; clear hb hbox hg))
 replace BK317 := kd BK317
 replace BK318 := kd BK318
 replace HB := Aside0.mk (below_drew1 HB.out)
 refine start_ (n := 5) (S := fun w' => w'.cell? ⟨gb317, 0, none⟩ = some (.int .i64 a0_0) ∧ w'.cell? ⟨gb317, 1, none⟩ = some (.int .i64 a0_1)) (ds := []) #[false, false, false, false, false] (by kernel_rfl) rfl rfl ⟨(blk_cell BK317.out 0).trans rfl, (blk_cell BK317.out 1).trans rfl⟩ (fun hHeld => ?_)
 generalize w5.drew = w6 at BK317 BK318 HB hHeld ⊢
 refine take_ (i := 0) (N := some 3) (v := ?_) (a' := ?_) #[true, false, false, false, false] rfl rfl (by kernel_rfl) (fun _ _ _ h => h) (Or.inl ⟨by rfl, ?_⟩) hHeld ?_ ?_
 rotate_left
 ·
  rintro w' ⟨s0, s1⟩
  go_simp; with_reducible rfl
 rotate_left
 ·
  simp only [ap]
  rfl
 refine take_ (i := 1) (N := some 4) (v := ?_) (a' := ?_) #[true, true, false, false, false] rfl rfl (by kernel_rfl) (fun _ _ _ h => h) (Or.inl ⟨by rfl, ?_⟩) hHeld ?_ ?_
 rotate_left
 ·
  rintro w' ⟨s0, s1⟩
  go_simp; with_reducible rfl
 rotate_left
 ·
  simp only [ap]
  rfl
 refine one_ (i := 2) (N := some 5) #[true, true, true, false, false] rfl rfl (by kernel_rfl) (by decide) (fun K hK => ?_)
 refine goes_ Try.func46 (by kernel_rfl) rfl #[.agg #[.int .i64 a0_0, .int .i64 a0_1]] (by rfl) rfl rfl (by (try simp only [mp]); first | done | rfl | (simp only [ld]; rfl)) ?_
 with_reducible refine (serinetteref01_Floor.calls k a0_0 a0_1 t319 t320 _ A2.out).mono ?_
 rintro e w7 ⟨rfl, hb⟩
 refine ⟨_, rfl, ?_⟩
 replace BK317 := kb BK317 hb
 replace BK318 := kb BK318 hb
 replace HB := hs' HB (by repeat first | (with_reducible exact HB.out) | refine bl1 ?_ | (with_reducible refine bset ?_ ‹_›) | exact HB.out) hb
 (try clear hb); (try clear hb2); (try clear hk); (try clear hi)
 refine hK.out _ _ ⟨(blk_cell BK317.out 0).trans rfl, (blk_cell BK317.out 1).trans rfl⟩ (fun hHeld => ?_)
 clear hK K
 refine norm_ (a' := ?_) ?_ ?_
 rotate_left
 ·
  show Act.put _ (some 5) _ = _
  simp only [ap]; rfl
 refine one_ (i := 3) (N := some 6) #[true, true, true, true, false] rfl rfl (by kernel_rfl) (by decide) (fun K hK => ?_)
 refine goes_ Try.func39 (by kernel_rfl) rfl #[.agg #[.int .i64 a0_0, .int .i64 a0_1], .agg #[.int .i64 t319, .int .i64 t320]] (by rfl) rfl rfl (by (try simp only [mp]); first | done | rfl | (simp only [ld]; rfl)) ?_
 with_reducible refine (serinetteref01_Sub.calls k a0_0 a0_1 t319 t320 t321 t322 _ A3.out).mono ?_
 rintro e w8 ⟨rfl, hb⟩
 refine ⟨_, rfl, ?_⟩
 replace BK317 := kb BK317 hb
 replace BK318 := kb BK318 hb
 replace HB := hs' HB (by repeat first | (with_reducible exact HB.out) | refine bl1 ?_ | (with_reducible refine bset ?_ ‹_›) | exact HB.out) hb
 (try clear hb); (try clear hb2); (try clear hk); (try clear hi)
 refine hK.out _ _ ⟨(blk_cell BK317.out 0).trans rfl, (blk_cell BK317.out 1).trans rfl⟩ (fun hHeld => ?_)
 clear hK K
 refine norm_ (a' := ?_) ?_ ?_
 rotate_left
 ·
  show Act.put _ (some 6) _ = _
  simp only [ap]; rfl
 refine one_ (i := 4) (N := none) #[true, true, true, true, true] rfl rfl (by kernel_rfl) (by decide) (fun K hK => ?_)
 have hs9 : w8.cell? ⟨gb318, 0, none⟩ = some (.int .i64 0) := (blk_cell BK318.out 0).trans rfl
 have hfs9 := blk_frozen BK318.out 0
 have hns9_0 := NB317_318.out
 have hms9_0 := NB318_317.out
 have hs10 : w8.cell? ⟨gb318, 1, none⟩ = some (.int .i64 0) := (blk_cell BK318.out 1).trans rfl
 have hfs10 := blk_frozen BK318.out 1
 have hns10_0 := NB317_318.out
 have hms10_0 := NB318_317.out
 refine skip_ (w1 := ?_) (by rfl) rfl ?_ ?_
 rotate_left
 ·
  go_simp
  rfl
 refine hK.out _ _ ⟨((cell_far (p := ⟨gb318, _, none⟩) NB317_318.out _).trans (((cell_far (p := ⟨gb318, _, none⟩) NB317_318.out _).trans (hHeld.1)))), ((cell_far (p := ⟨gb318, _, none⟩) NB317_318.out _).trans (((cell_far (p := ⟨gb318, _, none⟩) NB317_318.out _).trans (hHeld.2))))⟩ (fun hHeld => ?_)
 clear hK K
 refine done_ (by kernel_rfl) ?_
 try go_wp2
 refine bodyPost_ret (results_cell_row rfl _ _ gb318 24 #[.int .i64 t321, .int .i64 t322] (0, 0) _ rfl (by refine bk ?_; refine blk_put (cs := #[.int .i64 t321, .int .i64 0]) ?_ 1 _ rfl; refine bk ?_; refine blk_put (cs := #[.int .i64 0, .int .i64 0]) ?_ 0 _ rfl; refine bk ?_; exact BK318.out) Try.underlying24 rfl (by kernel_rfl)) rfl ?_
 exact ⟨by first | rfl | (simp [errW_none, errW_some] <;> rfl) | (simp [*, errW_none, errW_some] <;> rfl), by repeat first | exact HB.out | refine bset ?_ ‹_› | apply below_alloc | apply pw_below_drewN | apply below_drew1⟩

/-! ### serinetteref01_Min: function 49 -/
def serinetteref01_Min.f (k : Nat) (a0_0 : Int) (a0_1 : Int) (a1_0 : Int) (a1_1 : Int) : Option (Int × Int) := (serinetteref01_both.f k a0_0 a0_1 a1_0 a1_1).bind fun t326 => (if t326 = true then ((serinetteref01_Cmp.f k a0_0 a0_1 a1_0 a1_1).bind fun t327 => (if t327 ≤ 0 then (some (a0_0, a0_1)) else (some (a1_0, a1_1)))) else ((serinetteref01_None.f).bind fun bt328 => (some (bt328.1, bt328.2))))
theorem serinetteref01_Min.mono : ∀ a0 a1 a2 a3 k, LeO (serinetteref01_Min.f k a0 a1 a2 a3) (serinetteref01_Min.f (k + 1) a0 a1 a2 a3) := by
 intro a0 a1 a2 a3 k
 unfold serinetteref01_Min.f
 repeat' first
   | (with_reducible exact serinetteref01_Cmp.mono _ _ _ _ _)
   | (with_reducible exact serinetteref01_both.mono _ _ _ _ _)
   | (with_reducible exact LeO.refl _)
   | (with_reducible exact LeO.none _)
   | (with_reducible refine LeO.ite ?_ ?_)
   | (with_reducible refine LeO.bind ?_ (fun _ => ?_))
   | exact serinetteref01_Cmp.mono _ _ _ _ _
   | exact serinetteref01_both.mono _ _ _ _ _
   | exact LeO.none _
   | refine LeO.ite ?_ ?_
   | refine LeO.bind ?_ (fun _ => ?_)
set_option maxHeartbeats 8000000 in
set_option maxRecDepth 100000 in
theorem serinetteref01_Min.calls (k : Nat) (a0_0 : Int) (a0_1 : Int) (a1_0 : Int) (a1_1 : Int) (r1 : Int) (r2 : Int) (w : World) (h : serinetteref01_Min.f k a0_0 a0_1 a1_0 a1_1 = some (r1, r2)) :
  Calls Try.prog 49 #[.agg #[.int .i64 a0_0, .int .i64 a0_1], .agg #[.int .i64 a1_0, .int .i64 a1_1]] w fun e w' => e = .returned (.agg #[.int .i64 r1, .int .i64 r2]) ∧ Below w.heap.size w w' := by
 have hu24 := Try.underlying24
 have HB := Aside0.mk (Below.refl w.heap.size w)
 have H : ((serinetteref01_both.f k a0_0 a0_1 a1_0 a1_1).bind fun t326 => (if t326 = true then ((serinetteref01_Cmp.f k a0_0 a0_1 a1_0 a1_1).bind fun t327 => (if t327 ≤ 0 then (some (a0_0, a0_1)) else (some (a1_0, a1_1)))) else ((serinetteref01_None.f).bind fun bt328 => (some (bt328.1, bt328.2))))) = some (r1, r2) := h
 clear h
 replace H := Option.bind_eq_some_iff.mp H
 obtain ⟨t326, A30, H⟩ := H
 (try dsimp only at H)
 have A3 := Aside0.mk A30
 clear A30
 by_cases c4 : t326 = true
 ·
  subst c4
  rw [if_pos rfl] at H
  replace H := Option.bind_eq_some_iff.mp H
  obtain ⟨t327, A50, H⟩ := H
  (try dsimp only at H)
  have A5 := Aside0.mk A50
  clear A50
  by_cases c6 : t327 ≤ 0
  ·
   rw [if_pos c6] at H
   have c6b0 : decide (t327 ≤ 0) = true := decide_eq_true c6
   clear c6
   simp only [Option.some.injEq, Prod.mk.injEq] at H
   obtain ⟨rfl, rfl⟩ := H
   go_enter Try.func49, Try.ntmps49
   go_wp2_with (first | ((with_reducible refine gate_dst (N := 2) rfl ?_); refine box_event ?hg (N := 2) ?hd (cs := #[.int .i64 a0_0, .int .i64 a0_1]) (t := 24) ?hr ?_; (case hd => rfl); (case hg => rfl); (case hr => first | (go_simp; done) | (go_simp; rfl)); intro gb323 hg w7 hbox hb; have BK323 := Aside0.mk (hbox); have GW323 := hz_ hg HB; have GE323 := hz_ hg HB; replace HB := hs HB hb; clear hb hbox hg) | ((with_reducible refine gate_dst (N := 3) rfl ?_); refine box_event ?hg (N := 3) ?hd (cs := #[.int .i64 a1_0, .int .i64 a1_1]) (t := 24) ?hr ?_; (case hd => rfl); (case hg => rfl); (case hr => first | (go_simp; done) | (go_simp; rfl)); intro gb324 hg w8 hbox hb; have BK324 := Aside0.mk (hbox); have GW324 := bz' HB hg (by repeat first | (with_reducible exact HB.out) | refine bl1 ?_ | (with_reducible refine bset ?_ ‹_›) | exact HB.out); have GE324 := bz' HB hg (by repeat first | (with_reducible exact HB.out) | refine bl1 ?_ | (with_reducible refine bset ?_ ‹_›) | exact HB.out); have NB323_324 := nlk hg BK323; have NB324_323 := ngk hg BK323; replace BK323 := kb BK323 hb; replace HB := hs' HB (by repeat first | (with_reducible exact HB.out) | refine bl1 ?_ | (with_reducible refine bset ?_ ‹_›) | exact HB.out) hb; clear hb hbox hg) | ((with_reducible refine gate_dst (N := 4) rfl ?_); refine box_event ?hg (N := 4) ?hd (cs := #[.int .i64 0, .int .i64 0]) (t := 24) ?hr ?_; (case hd => rfl); (case hg => rfl); (case hr => first | (go_simp; done) | (go_simp; rfl)); intro gb325 hg w9 hbox hb; have BK325 := Aside0.mk (hbox); have GW325 := bz' HB hg (by repeat first | (with_reducible exact HB.out) | refine bl1 ?_ | (with_reducible refine bset ?_ ‹_›) | exact HB.out); have GE325 := bz' HB hg (by repeat first | (with_reducible exact HB.out) | refine bl1 ?_ | (with_reducible refine bset ?_ ‹_›) | exact HB.out); have NB323_325 := nlk hg BK323; have NB325_323 := ngk hg BK323; have NB324_325 := nlk hg BK324; have NB325_324 := ngk hg BK324; replace BK323 := kb BK323 hb; replace BK324 := kb BK324 hb; replace HB := hs' HB (by repeat first | (with_reducible exact HB.out) | refine bl1 ?_ | (with_reducible refine bset ?_ ‹_›) | exact HB.out) hb; clear hb hbox hg; have hnb10 := NB323_324.out; have hnc10 := NB324_323.out; have hnb11 := NB323_325.out; have hnc11 := NB325_323.out; have hcz12_0 : w9.cell? ⟨gb323, 0, none⟩ = some (.int .i64 a0_0) := (blk_cell BK323.out 0).trans rfl; have hcz12_1 : w9.cell? ⟨gb323, 1, none⟩ = some (.int .i64 a0_1) := (blk_cell BK323.out 1).trans rfl; have hfz12_0 := blk_frozen BK323.out 0; have hfz12_1 := blk_frozen BK323.out 1; have hnb13 := NB324_325.out; have hnc13 := NB325_324.out; have hcz14_0 : w9.cell? ⟨gb324, 0, none⟩ = some (.int .i64 a1_0) := (blk_cell BK324.out 0).trans rfl; have hcz14_1 : w9.cell? ⟨gb324, 1, none⟩ = some (.int .i64 a1_1) := (blk_cell BK324.out 1).trans rfl; have hfz14_0 := blk_frozen BK324.out 0; have hfz14_1 := blk_frozen BK324.out 1) | ((with_reducible refine gate_callee (f := 60) rfl ?_); refine goesL_ (some 7) rfl rfl Try.func60 (by kernel_rfl) rfl #[.agg #[.int .i64 a0_0, .int .i64 a0_1], .agg #[.int .i64 a1_0, .int .i64 a1_1]] rfl (by (try simp only [mp]); first | done | rfl | (simp only [ld]; rfl)) ?_; (with_reducible refine (serinetteref01_both.calls k a0_0 a0_1 a1_0 a1_1 true _ A3.out).mono ?_); rintro e w15 ⟨rfl, hb⟩; refine ⟨_, rfl, ?_⟩; replace BK323 := kb BK323 hb; replace BK324 := kb BK324 hb; replace BK325 := kb BK325 hb; replace HB := hs' HB (by repeat first | (with_reducible exact HB.out) | refine bl1 ?_ | (with_reducible refine bset ?_ ‹_›) | exact HB.out) hb; (try clear hb); (try clear hb2); (try clear hk); (try clear hi); have hcz16_0 : w15.cell? ⟨gb323, 0, none⟩ = some (.int .i64 a0_0) := (blk_cell BK323.out 0).trans rfl; have hcz16_1 : w15.cell? ⟨gb323, 1, none⟩ = some (.int .i64 a0_1) := (blk_cell BK323.out 1).trans rfl; have hfz16_0 := blk_frozen BK323.out 0; have hfz16_1 := blk_frozen BK323.out 1; have hcz17_0 : w15.cell? ⟨gb324, 0, none⟩ = some (.int .i64 a1_0) := (blk_cell BK324.out 0).trans rfl; have hcz17_1 : w15.cell? ⟨gb324, 1, none⟩ = some (.int .i64 a1_1) := (blk_cell BK324.out 1).trans rfl; have hfz17_0 := blk_frozen BK324.out 0; have hfz17_1 := blk_frozen BK324.out 1) | ((with_reducible refine gate_callee (f := 37) rfl ?_); refine goesL_ (some 12) rfl rfl Try.func37 (by kernel_rfl) rfl #[.agg #[.int .i64 a0_0, .int .i64 a0_1], .agg #[.int .i64 a1_0, .int .i64 a1_1]] rfl (by (try simp only [mp]); first | done | rfl | (simp only [ld]; rfl)) ?_; (with_reducible refine (serinetteref01_Cmp.calls k a0_0 a0_1 a1_0 a1_1 t327 _ A5.out).mono ?_); rintro e w18 ⟨rfl, hb⟩; refine ⟨_, rfl, ?_⟩; replace BK323 := kb BK323 hb; replace BK324 := kb BK324 hb; replace BK325 := kb BK325 hb; replace HB := hs' HB (by repeat first | (with_reducible exact HB.out) | refine bl1 ?_ | (with_reducible refine bset ?_ ‹_›) | exact HB.out) hb; (try clear hb); (try clear hb2); (try clear hk); (try clear hi); have hcz19_0 : w18.cell? ⟨gb323, 0, none⟩ = some (.int .i64 a0_0) := (blk_cell BK323.out 0).trans rfl; have hcz19_1 : w18.cell? ⟨gb323, 1, none⟩ = some (.int .i64 a0_1) := (blk_cell BK323.out 1).trans rfl; have hfz19_0 := blk_frozen BK323.out 0; have hfz19_1 := blk_frozen BK323.out 1; have hcz20_0 : w18.cell? ⟨gb325, 0, none⟩ = some (.int .i64 0) := (blk_cell BK325.out 0).trans rfl; have hcz20_1 : w18.cell? ⟨gb325, 1, none⟩ = some (.int .i64 0) := (blk_cell BK325.out 1).trans rfl; have hfz20_0 := blk_frozen BK325.out 0; have hfz20_1 := blk_frozen BK325.out 1))
   refine bodyPost_ret (results_cell_row rfl _ _ gb325 24 #[.int .i64 a0_0, .int .i64 a0_1] (0, 0) _ rfl (by refine bk ?_; refine blk_put (cs := #[.int .i64 a0_0, .int .i64 0]) ?_ 1 _ rfl; refine bk ?_; refine blk_put (cs := #[.int .i64 0, .int .i64 0]) ?_ 0 _ rfl; refine bk ?_; exact BK325.out) Try.underlying24 rfl (by kernel_rfl)) rfl ?_
   exact ⟨by first | rfl | (simp [errW_none, errW_some] <;> rfl) | (simp [*, errW_none, errW_some] <;> rfl), by repeat first | exact HB.out | refine bset ?_ ‹_› | apply below_alloc | apply pw_below_drewN | apply below_drew1⟩
  ·
   rw [if_neg c6] at H
   have c6b0 : decide (t327 ≤ 0) = false := decide_eq_false c6
   clear c6
   simp only [Option.some.injEq, Prod.mk.injEq] at H
   obtain ⟨rfl, rfl⟩ := H
   go_enter Try.func49, Try.ntmps49
   go_wp2_with (first | ((with_reducible refine gate_dst (N := 2) rfl ?_); refine box_event ?hg (N := 2) ?hd (cs := #[.int .i64 a0_0, .int .i64 a0_1]) (t := 24) ?hr ?_; (case hd => rfl); (case hg => rfl); (case hr => first | (go_simp; done) | (go_simp; rfl)); intro gb323 hg w21 hbox hb; have BK323 := Aside0.mk (hbox); have GW323 := hz_ hg HB; have GE323 := hz_ hg HB; replace HB := hs HB hb; clear hb hbox hg) | ((with_reducible refine gate_dst (N := 3) rfl ?_); refine box_event ?hg (N := 3) ?hd (cs := #[.int .i64 a1_0, .int .i64 a1_1]) (t := 24) ?hr ?_; (case hd => rfl); (case hg => rfl); (case hr => first | (go_simp; done) | (go_simp; rfl)); intro gb324 hg w22 hbox hb; have BK324 := Aside0.mk (hbox); have GW324 := bz' HB hg (by repeat first | (with_reducible exact HB.out) | refine bl1 ?_ | (with_reducible refine bset ?_ ‹_›) | exact HB.out); have GE324 := bz' HB hg (by repeat first | (with_reducible exact HB.out) | refine bl1 ?_ | (with_reducible refine bset ?_ ‹_›) | exact HB.out); have NB323_324 := nlk hg BK323; have NB324_323 := ngk hg BK323; replace BK323 := kb BK323 hb; replace HB := hs' HB (by repeat first | (with_reducible exact HB.out) | refine bl1 ?_ | (with_reducible refine bset ?_ ‹_›) | exact HB.out) hb; clear hb hbox hg) | ((with_reducible refine gate_dst (N := 4) rfl ?_); refine box_event ?hg (N := 4) ?hd (cs := #[.int .i64 0, .int .i64 0]) (t := 24) ?hr ?_; (case hd => rfl); (case hg => rfl); (case hr => first | (go_simp; done) | (go_simp; rfl)); intro gb325 hg w23 hbox hb; have BK325 := Aside0.mk (hbox); have GW325 := bz' HB hg (by repeat first | (with_reducible exact HB.out) | refine bl1 ?_ | (with_reducible refine bset ?_ ‹_›) | exact HB.out); have GE325 := bz' HB hg (by repeat first | (with_reducible exact HB.out) | refine bl1 ?_ | (with_reducible refine bset ?_ ‹_›) | exact HB.out); have NB323_325 := nlk hg BK323; have NB325_323 := ngk hg BK323; have NB324_325 := nlk hg BK324; have NB325_324 := ngk hg BK324; replace BK323 := kb BK323 hb; replace BK324 := kb BK324 hb; replace HB := hs' HB (by repeat first | (with_reducible exact HB.out) | refine bl1 ?_ | (with_reducible refine bset ?_ ‹_›) | exact HB.out) hb; clear hb hbox hg; have hnb24 := NB323_324.out; have hnc24 := NB324_323.out; have hnb25 := NB323_325.out; have hnc25 := NB325_323.out; have hcz26_0 : w23.cell? ⟨gb323, 0, none⟩ = some (.int .i64 a0_0) := (blk_cell BK323.out 0).trans rfl; have hcz26_1 : w23.cell? ⟨gb323, 1, none⟩ = some (.int .i64 a0_1) := (blk_cell BK323.out 1).trans rfl; have hfz26_0 := blk_frozen BK323.out 0; have hfz26_1 := blk_frozen BK323.out 1; have hnb27 := NB324_325.out; have hnc27 := NB325_324.out; have hcz28_0 : w23.cell? ⟨gb324, 0, none⟩ = some (.int .i64 a1_0) := (blk_cell BK324.out 0).trans rfl; have hcz28_1 : w23.cell? ⟨gb324, 1, none⟩ = some (.int .i64 a1_1) := (blk_cell BK324.out 1).trans rfl; have hfz28_0 := blk_frozen BK324.out 0; have hfz28_1 := blk_frozen BK324.out 1) | ((with_reducible refine gate_callee (f := 60) rfl ?_); refine goesL_ (some 7) rfl rfl Try.func60 (by kernel_rfl) rfl #[.agg #[.int .i64 a0_0, .int .i64 a0_1], .agg #[.int .i64 a1_0, .int .i64 a1_1]] rfl (by (try simp only [mp]); first | done | rfl | (simp only [ld]; rfl)) ?_; (with_reducible refine (serinetteref01_both.calls k a0_0 a0_1 a1_0 a1_1 true _ A3.out).mono ?_); rintro e w29 ⟨rfl, hb⟩; refine ⟨_, rfl, ?_⟩; replace BK323 := kb BK323 hb; replace BK324 := kb BK324 hb; replace BK325 := kb BK325 hb; replace HB := hs' HB (by repeat first | (with_reducible exact HB.out) | refine bl1 ?_ | (with_reducible refine bset ?_ ‹_›) | exact HB.out) hb; (try clear hb); (try clear hb2); (try clear hk); (try clear hi); have hcz30_0 : w29.cell? ⟨gb323, 0, none⟩ = some (.int .i64 a0_0) := (blk_cell BK323.out 0).trans rfl; have hcz30_1 : w29.cell? ⟨gb323, 1, none⟩ = some (.int .i64 a0_1) := (blk_cell BK323.out 1).trans rfl; have hfz30_0 := blk_frozen BK323.out 0; have hfz30_1 := blk_frozen BK323.out 1; have hcz31_0 : w29.cell? ⟨gb324, 0, none⟩ = some (.int .i64 a1_0) := (blk_cell BK324.out 0).trans rfl; have hcz31_1 : w29.cell? ⟨gb324, 1, none⟩ = some (.int .i64 a1_1) := (blk_cell BK324.out 1).trans rfl; have hfz31_0 := blk_frozen BK324.out 0; have hfz31_1 := blk_frozen BK324.out 1) | ((with_reducible refine gate_callee (f := 37) rfl ?_); refine goesL_ (some 12) rfl rfl Try.func37 (by kernel_rfl) rfl #[.agg #[.int .i64 a0_0, .int .i64 a0_1], .agg #[.int .i64 a1_0, .int .i64 a1_1]] rfl (by (try simp only [mp]); first | done | rfl | (simp only [ld]; rfl)) ?_; (with_reducible refine (serinetteref01_Cmp.calls k a0_0 a0_1 a1_0 a1_1 t327 _ A5.out).mono ?_); rintro e w32 ⟨rfl, hb⟩; refine ⟨_, rfl, ?_⟩; replace BK323 := kb BK323 hb; replace BK324 := kb BK324 hb; replace BK325 := kb BK325 hb; replace HB := hs' HB (by repeat first | (with_reducible exact HB.out) | refine bl1 ?_ | (with_reducible refine bset ?_ ‹_›) | exact HB.out) hb; (try clear hb); (try clear hb2); (try clear hk); (try clear hi); have hcz33_0 : w32.cell? ⟨gb324, 0, none⟩ = some (.int .i64 a1_0) := (blk_cell BK324.out 0).trans rfl; have hcz33_1 : w32.cell? ⟨gb324, 1, none⟩ = some (.int .i64 a1_1) := (blk_cell BK324.out 1).trans rfl; have hfz33_0 := blk_frozen BK324.out 0; have hfz33_1 := blk_frozen BK324.out 1; have hcz34_0 : w32.cell? ⟨gb325, 0, none⟩ = some (.int .i64 0) := (blk_cell BK325.out 0).trans rfl; have hcz34_1 : w32.cell? ⟨gb325, 1, none⟩ = some (.int .i64 0) := (blk_cell BK325.out 1).trans rfl; have hfz34_0 := blk_frozen BK325.out 0; have hfz34_1 := blk_frozen BK325.out 1))
   refine bodyPost_ret (results_cell_row rfl _ _ gb325 24 #[.int .i64 a1_0, .int .i64 a1_1] (0, 0) _ rfl (by refine bk ?_; refine blk_put (cs := #[.int .i64 a1_0, .int .i64 0]) ?_ 1 _ rfl; refine bk ?_; refine blk_put (cs := #[.int .i64 0, .int .i64 0]) ?_ 0 _ rfl; refine bk ?_; exact BK325.out) Try.underlying24 rfl (by kernel_rfl)) rfl ?_
   exact ⟨by first | rfl | (simp [errW_none, errW_some] <;> rfl) | (simp [*, errW_none, errW_some] <;> rfl), by repeat first | exact HB.out | refine bset ?_ ‹_› | apply below_alloc | apply pw_below_drewN | apply below_drew1⟩
 ·
  replace c4 := Bool.eq_false_iff.mpr c4
  subst c4
  rw [if_neg (show ¬ (false = true) by decide)] at H
  replace H := Option.bind_eq_some_iff.mp H
  obtain ⟨⟨t328, t329⟩, A350, H⟩ := H
  (try dsimp only at H)
  have A35 := Aside0.mk A350
  clear A350
  simp only [Option.some.injEq, Prod.mk.injEq] at H
  obtain ⟨rfl, rfl⟩ := H
  go_enter Try.func49, Try.ntmps49
  go_wp2_with (first | ((with_reducible refine gate_dst (N := 2) rfl ?_); refine box_event ?hg (N := 2) ?hd (cs := #[.int .i64 a0_0, .int .i64 a0_1]) (t := 24) ?hr ?_; (case hd => rfl); (case hg => rfl); (case hr => first | (go_simp; done) | (go_simp; rfl)); intro gb323 hg w36 hbox hb; have BK323 := Aside0.mk (hbox); have GW323 := hz_ hg HB; have GE323 := hz_ hg HB; replace HB := hs HB hb; clear hb hbox hg) | ((with_reducible refine gate_dst (N := 3) rfl ?_); refine box_event ?hg (N := 3) ?hd (cs := #[.int .i64 a1_0, .int .i64 a1_1]) (t := 24) ?hr ?_; (case hd => rfl); (case hg => rfl); (case hr => first | (go_simp; done) | (go_simp; rfl)); intro gb324 hg w37 hbox hb; have BK324 := Aside0.mk (hbox); have GW324 := bz' HB hg (by repeat first | (with_reducible exact HB.out) | refine bl1 ?_ | (with_reducible refine bset ?_ ‹_›) | exact HB.out); have GE324 := bz' HB hg (by repeat first | (with_reducible exact HB.out) | refine bl1 ?_ | (with_reducible refine bset ?_ ‹_›) | exact HB.out); have NB323_324 := nlk hg BK323; have NB324_323 := ngk hg BK323; replace BK323 := kb BK323 hb; replace HB := hs' HB (by repeat first | (with_reducible exact HB.out) | refine bl1 ?_ | (with_reducible refine bset ?_ ‹_›) | exact HB.out) hb; clear hb hbox hg) | ((with_reducible refine gate_dst (N := 4) rfl ?_); refine box_event ?hg (N := 4) ?hd (cs := #[.int .i64 0, .int .i64 0]) (t := 24) ?hr ?_; (case hd => rfl); (case hg => rfl); (case hr => first | (go_simp; done) | (go_simp; rfl)); intro gb325 hg w38 hbox hb; have BK325 := Aside0.mk (hbox); have GW325 := bz' HB hg (by repeat first | (with_reducible exact HB.out) | refine bl1 ?_ | (with_reducible refine bset ?_ ‹_›) | exact HB.out); have GE325 := bz' HB hg (by repeat first | (with_reducible exact HB.out) | refine bl1 ?_ | (with_reducible refine bset ?_ ‹_›) | exact HB.out); have NB323_325 := nlk hg BK323; have NB325_323 := ngk hg BK323; have NB324_325 := nlk hg BK324; have NB325_324 := ngk hg BK324; replace BK323 := kb BK323 hb; replace BK324 := kb BK324 hb; replace HB := hs' HB (by repeat first | (with_reducible exact HB.out) | refine bl1 ?_ | (with_reducible refine bset ?_ ‹_›) | exact HB.out) hb; clear hb hbox hg; have hnb39 := NB323_324.out; have hnc39 := NB324_323.out; have hnb40 := NB323_325.out; have hnc40 := NB325_323.out; have hcz41_0 : w38.cell? ⟨gb323, 0, none⟩ = some (.int .i64 a0_0) := (blk_cell BK323.out 0).trans rfl; have hcz41_1 : w38.cell? ⟨gb323, 1, none⟩ = some (.int .i64 a0_1) := (blk_cell BK323.out 1).trans rfl; have hfz41_0 := blk_frozen BK323.out 0; have hfz41_1 := blk_frozen BK323.out 1; have hnb42 := NB324_325.out; have hnc42 := NB325_324.out; have hcz43_0 : w38.cell? ⟨gb324, 0, none⟩ = some (.int .i64 a1_0) := (blk_cell BK324.out 0).trans rfl; have hcz43_1 : w38.cell? ⟨gb324, 1, none⟩ = some (.int .i64 a1_1) := (blk_cell BK324.out 1).trans rfl; have hfz43_0 := blk_frozen BK324.out 0; have hfz43_1 := blk_frozen BK324.out 1) | ((with_reducible refine gate_callee (f := 60) rfl ?_); refine goesL_ (some 7) rfl rfl Try.func60 (by kernel_rfl) rfl #[.agg #[.int .i64 a0_0, .int .i64 a0_1], .agg #[.int .i64 a1_0, .int .i64 a1_1]] rfl (by (try simp only [mp]); first | done | rfl | (simp only [ld]; rfl)) ?_; (with_reducible refine (serinetteref01_both.calls k a0_0 a0_1 a1_0 a1_1 false _ A3.out).mono ?_); rintro e w44 ⟨rfl, hb⟩; refine ⟨_, rfl, ?_⟩; replace BK323 := kb BK323 hb; replace BK324 := kb BK324 hb; replace BK325 := kb BK325 hb; replace HB := hs' HB (by repeat first | (with_reducible exact HB.out) | refine bl1 ?_ | (with_reducible refine bset ?_ ‹_›) | exact HB.out) hb; (try clear hb); (try clear hb2); (try clear hk); (try clear hi)) | ((with_reducible refine gate_callee (f := 53) rfl ?_); refine goesL_ (some 9) rfl rfl Try.func53 (by kernel_rfl) rfl #[] rfl (by (try simp only [mp]); first | done | rfl | (simp only [ld]; rfl)) ?_; (with_reducible refine (serinetteref01_None.calls  t328 t329 _ A35.out).mono ?_); rintro e w45 ⟨rfl, hb⟩; refine ⟨_, rfl, ?_⟩; replace BK323 := kb BK323 hb; replace BK324 := kb BK324 hb; replace BK325 := kb BK325 hb; replace HB := hs' HB (by repeat first | (with_reducible exact HB.out) | refine bl1 ?_ | (with_reducible refine bset ?_ ‹_›) | exact HB.out) hb; (try clear hb); (try clear hb2); (try clear hk); (try clear hi); have hcz46_0 : w45.cell? ⟨gb325, 0, none⟩ = some (.int .i64 0) := (blk_cell BK325.out 0).trans rfl; have hcz46_1 : w45.cell? ⟨gb325, 1, none⟩ = some (.int .i64 0) := (blk_cell BK325.out 1).trans rfl; have hfz46_0 := blk_frozen BK325.out 0; have hfz46_1 := blk_frozen BK325.out 1))
  refine bodyPost_ret (results_cell_row rfl _ _ gb325 24 #[.int .i64 t328, .int .i64 t329] (0, 0) _ rfl (by refine bk ?_; refine blk_put (cs := #[.int .i64 t328, .int .i64 0]) ?_ 1 _ rfl; refine bk ?_; refine blk_put (cs := #[.int .i64 0, .int .i64 0]) ?_ 0 _ rfl; refine bk ?_; exact BK325.out) Try.underlying24 rfl (by kernel_rfl)) rfl ?_
  exact ⟨by first | rfl | (simp [errW_none, errW_some] <;> rfl) | (simp [*, errW_none, errW_some] <;> rfl), by repeat first | exact HB.out | refine bset ?_ ‹_› | apply below_alloc | apply pw_below_drewN | apply below_drew1⟩

/-! ### ratio_Max: function 50 -/
def ratio_Max.j0 : Nat → Bool → Int → Int → Int → Int → Option (Int × Int)
 | 0, _, _, _, _, _ => none
 | k + 1, x12, x331000, x331001, x332000, x332001 => if x12 = true then (some (0, 0)) else ((ratio_Cmp.f k x332000 x332001 x331000 x331001).bind fun t335 => (if t335 > 0 then (some (x332000, x332001)) else (some (x331000, x331001))))
def ratio_Max.f (k : Nat) (a0_0 : Int) (a0_1 : Int) (a1_0 : Int) (a1_1 : Int) : Option (Int × Int) := (ratio_Is.f k a0_0 a0_1).bind fun t333 => (if t333 = true then ((ratio_Is.f k a1_0 a1_1).bind fun t334 => (ratio_Max.j0 k (!t334) a0_0 a0_1 a1_0 a1_1)) else (ratio_Max.j0 k true a0_0 a0_1 a1_0 a1_1))
theorem ratio_Max.mono_l : ∀ k, (∀ y0 y1 y2 y3 y4, LeO (ratio_Max.j0 k y0 y1 y2 y3 y4) (ratio_Max.j0 (k + 1) y0 y1 y2 y3 y4))
 | 0 => fun _ _ _ _ _ r h => by simp [ratio_Max.j0] at h
 | k + 1 => by
  have ih0 := ratio_Max.mono_l k
  ·
   intro y0 y1 y2 y3 y4
   unfold ratio_Max.j0
   repeat' first
   | (with_reducible exact ih0 _ _ _ _ _)
   | (with_reducible exact ratio_Cmp.mono _ _ _ _ _)
   | (with_reducible exact ratio_Is.mono _ _ _)
   | (with_reducible exact LeO.refl _)
   | (with_reducible exact LeO.none _)
   | (with_reducible refine LeO.ite ?_ ?_)
   | (with_reducible refine LeO.bind ?_ (fun _ => ?_))
   | exact ih0 _ _ _ _ _
   | exact ratio_Cmp.mono _ _ _ _ _
   | exact ratio_Is.mono _ _ _
   | exact LeO.none _
   | refine LeO.ite ?_ ?_
   | refine LeO.bind ?_ (fun _ => ?_)
theorem ratio_Max.mono : ∀ a0 a1 a2 a3 k, LeO (ratio_Max.f k a0 a1 a2 a3) (ratio_Max.f (k + 1) a0 a1 a2 a3) := by
 intro a0 a1 a2 a3 k
 have ih0 := ratio_Max.mono_l k
 unfold ratio_Max.f
 repeat' first
   | (with_reducible exact ih0 _ _ _ _ _)
   | (with_reducible exact ratio_Cmp.mono _ _ _ _ _)
   | (with_reducible exact ratio_Is.mono _ _ _)
   | (with_reducible exact LeO.refl _)
   | (with_reducible exact LeO.none _)
   | (with_reducible refine LeO.ite ?_ ?_)
   | (with_reducible refine LeO.bind ?_ (fun _ => ?_))
   | exact ih0 _ _ _ _ _
   | exact ratio_Cmp.mono _ _ _ _ _
   | exact ratio_Is.mono _ _ _
   | exact LeO.none _
   | refine LeO.ite ?_ ?_
   | refine LeO.bind ?_ (fun _ => ?_)
set_option maxHeartbeats 8000000 in
set_option maxRecDepth 100000 in
theorem ratio_Max.calls (k : Nat) (a0_0 : Int) (a0_1 : Int) (a1_0 : Int) (a1_1 : Int) (r1 : Int) (r2 : Int) (w : World) (h : ratio_Max.f k a0_0 a0_1 a1_0 a1_1 = some (r1, r2)) :
  Calls Try.prog 50 #[.agg #[.int .i64 a0_0, .int .i64 a0_1], .agg #[.int .i64 a1_0, .int .i64 a1_1]] w fun e w' => e = .returned (.agg #[.int .i64 r1, .int .i64 r2]) ∧ Below w.heap.size w w' := by
 have hu24 := Try.underlying24
 have HB := Aside0.mk (Below.refl w.heap.size w)
 have H : ((ratio_Is.f k a0_0 a0_1).bind fun t333 => (if t333 = true then ((ratio_Is.f k a1_0 a1_1).bind fun t334 => (ratio_Max.j0 k (!t334) a0_0 a0_1 a1_0 a1_1)) else (ratio_Max.j0 k true a0_0 a0_1 a1_0 a1_1))) = some (r1, r2) := h
 clear h
 have HC3 := Aside0.mk H
 clear H
 go_enter Try.func50, Try.ntmps50
 go_upto_region 1 with (first | ((with_reducible refine gate_dst (N := 2) rfl ?_); refine box_event ?hg (N := 2) ?hd (cs := #[.int .i64 a0_0, .int .i64 a0_1]) (t := 24) ?hr ?_; (case hd => rfl); (case hg => rfl); (case hr => first | (go_simp; done) | (go_simp; rfl)); intro gb330 hg w4 hbox hb; have BK330 := Aside0.mk (hbox); have GW330 := hz_ hg HB; have GE330 := hz_ hg HB; replace HB := hs HB hb; clear hb hbox hg) | ((with_reducible refine gate_dst (N := 3) rfl ?_); refine box_event ?hg (N := 3) ?hd (cs := #[.int .i64 a1_0, .int .i64 a1_1]) (t := 24) ?hr ?_; (case hd => rfl); (case hg => rfl); (case hr => first | (go_simp; done) | (go_simp; rfl)); intro gb331 hg w5 hbox hb; have BK331 := Aside0.mk (hbox); have GW331 := bz' HB hg (by repeat first | (with_reducible exact HB.out) | refine bl1 ?_ | (with_reducible refine bset ?_ ‹_›) | exact HB.out); have GE331 := bz' HB hg (by repeat first | (with_reducible exact HB.out) | refine bl1 ?_ | (with_reducible refine bset ?_ ‹_›) | exact HB.out); have NB330_331 := nlk hg BK330; have NB331_330 := ngk hg BK330; replace BK330 := kb BK330 hb; replace HB := hs' HB (by repeat first | (with_reducible exact HB.out) | refine bl1 ?_ | (with_reducible refine bset ?_ ‹_›) | exact HB.out) hb; clear hb hbox hg) | ((with_reducible refine gate_dst (N := 4) rfl ?_); refine box_event ?hg (N := 4) ?hd (cs := #[.int .i64 0, .int .i64 0]) (t := 24) ?hr ?_; (case hd => rfl); (case hg => rfl); (case hr => first | (go_simp; done) | (go_simp; rfl)); intro gb332 hg w6 hbox hb; have BK332 := Aside0.mk (hbox); have GW332 := bz' HB hg (by repeat first | (with_reducible exact HB.out) | refine bl1 ?_ | (with_reducible refine bset ?_ ‹_›) | exact HB.out); have GE332 := bz' HB hg (by repeat first | (with_reducible exact HB.out) | refine bl1 ?_ | (with_reducible refine bset ?_ ‹_›) | exact HB.out); have NB330_332 := nlk hg BK330; have NB332_330 := ngk hg BK330; have NB331_332 := nlk hg BK331; have NB332_331 := ngk hg BK331; replace BK330 := kb BK330 hb; replace BK331 := kb BK331 hb; replace HB := hs' HB (by repeat first | (with_reducible exact HB.out) | refine bl1 ?_ | (with_reducible refine bset ?_ ‹_›) | exact HB.out) hb; clear hb hbox hg))
 (try simp only [Act.put, List.setIfInBounds_toArray, List.set_cons_zero, List.set_cons_succ])
 go_cut [12] (fun v12 wc => ∃ (kq : Nat) (x12_2 : Bool), v12 = .bool x12_2 ∧ Aside0 (ratio_Max.j0 kq x12_2 a0_0 a0_1 a1_0 a1_1 = some (r1, r2)) ∧ Aside0 (kq ≤ k) ∧ Aside0 (wc.heap[gb330]? = some (.cells #[.int .i64 a0_0, .int .i64 a0_1] 24 (0, 0))) ∧ Aside0 (wc.heap[gb331]? = some (.cells #[.int .i64 a1_0, .int .i64 a1_1] 24 (0, 0))) ∧ Aside0 (wc.heap[gb332]? = some (.cells #[.int .i64 0, .int .i64 0] 24 (0, 0))) ∧ Aside0 (Below w.heap.size w wc))
 case first =>
  have H := HC3.out
  clear HC3
  replace H := Option.bind_eq_some_iff.mp H
  obtain ⟨t333, A70, H⟩ := H
  (try dsimp only at H)
  have A7 := Aside0.mk A70
  clear A70
  by_cases c8 : t333 = true
  ·
   subst c8
   rw [if_pos rfl] at H
   replace H := Option.bind_eq_some_iff.mp H
   obtain ⟨t334, A90, H⟩ := H
   (try dsimp only at H)
   have A9 := Aside0.mk A90
   clear A90
   have H' := Aside0.mk H
   clear H
   have hnb10 := NB330_331.out
   have hnc10 := NB331_330.out
   have hnb11 := NB330_332.out
   have hnc11 := NB332_330.out
   have hcz12_0 : w6.cell? ⟨gb330, 0, none⟩ = some (.int .i64 a0_0) := (blk_cell BK330.out 0).trans rfl
   have hcz12_1 : w6.cell? ⟨gb330, 1, none⟩ = some (.int .i64 a0_1) := (blk_cell BK330.out 1).trans rfl
   have hfz12_0 := blk_frozen BK330.out 0
   have hfz12_1 := blk_frozen BK330.out 1
   go_wp2_with (first | ((with_reducible refine gate_callee (f := 33) rfl ?_); refine goesL_ (some 6) rfl rfl Try.func33 (by kernel_rfl) rfl #[.agg #[.int .i64 a0_0, .int .i64 a0_1]] rfl (by (try simp only [mp]); first | done | rfl | (simp only [ld]; rfl)) ?_; (with_reducible refine (ratio_Is.calls k a0_0 a0_1 true _ A7.out).mono ?_); rintro e w13 ⟨rfl, hb⟩; refine ⟨_, rfl, ?_⟩; replace BK330 := kb BK330 hb; replace BK331 := kb BK331 hb; replace BK332 := kb BK332 hb; replace HB := hs' HB (by repeat first | (with_reducible exact HB.out) | refine bl1 ?_ | (with_reducible refine bset ?_ ‹_›) | exact HB.out) hb; (try clear hb); (try clear hb2); (try clear hk); (try clear hi); have hnb14 := NB331_332.out; have hnc14 := NB332_331.out; have hcz15_0 : w13.cell? ⟨gb331, 0, none⟩ = some (.int .i64 a1_0) := (blk_cell BK331.out 0).trans rfl; have hcz15_1 : w13.cell? ⟨gb331, 1, none⟩ = some (.int .i64 a1_1) := (blk_cell BK331.out 1).trans rfl; have hfz15_0 := blk_frozen BK331.out 0; have hfz15_1 := blk_frozen BK331.out 1) | (go_at_call 33; (with_reducible refine (ratio_Is.calls k a1_0 a1_1 t334 _ A9.out).mono ?_); rintro e w16 ⟨rfl, hb⟩; replace BK330 := kb BK330 hb; replace BK331 := kb BK331 hb; replace BK332 := kb BK332 hb; replace HB := hs' HB (by repeat first | (with_reducible exact HB.out) | refine bl1 ?_ | (with_reducible refine bset ?_ ‹_›) | exact HB.out) hb; (try clear hb); (try clear hb2); (try clear hk); (try clear hi)))
   go_meet
   case rel => exact ⟨_, (!t334), (by first | rfl | (simp; done) | (simp [*]; done)), H', ⟨by first | omega | exact Nat.le_refl _⟩, ⟨by refine bk ?_; exact BK330.out⟩, ⟨by refine bk ?_; exact BK331.out⟩, ⟨by refine bk ?_; exact BK332.out⟩, ⟨by repeat first | exact HB.out | refine bset ?_ ‹_› | apply below_alloc | apply pw_below_drewN | apply below_drew1⟩⟩
  ·
   replace c8 := Bool.eq_false_iff.mpr c8
   subst c8
   rw [if_neg (show ¬ (false = true) by decide)] at H
   have H' := Aside0.mk H
   clear H
   have hnb17 := NB330_331.out
   have hnc17 := NB331_330.out
   have hnb18 := NB330_332.out
   have hnc18 := NB332_330.out
   have hcz19_0 : w6.cell? ⟨gb330, 0, none⟩ = some (.int .i64 a0_0) := (blk_cell BK330.out 0).trans rfl
   have hcz19_1 : w6.cell? ⟨gb330, 1, none⟩ = some (.int .i64 a0_1) := (blk_cell BK330.out 1).trans rfl
   have hfz19_0 := blk_frozen BK330.out 0
   have hfz19_1 := blk_frozen BK330.out 1
   go_wp2_with (first | ((with_reducible refine gate_callee (f := 33) rfl ?_); refine goesL_ (some 6) rfl rfl Try.func33 (by kernel_rfl) rfl #[.agg #[.int .i64 a0_0, .int .i64 a0_1]] rfl (by (try simp only [mp]); first | done | rfl | (simp only [ld]; rfl)) ?_; (with_reducible refine (ratio_Is.calls k a0_0 a0_1 false _ A7.out).mono ?_); rintro e w20 ⟨rfl, hb⟩; refine ⟨_, rfl, ?_⟩; replace BK330 := kb BK330 hb; replace BK331 := kb BK331 hb; replace BK332 := kb BK332 hb; replace HB := hs' HB (by repeat first | (with_reducible exact HB.out) | refine bl1 ?_ | (with_reducible refine bset ?_ ‹_›) | exact HB.out) hb; (try clear hb); (try clear hb2); (try clear hk); (try clear hi)))
   go_meet
   case rel => exact ⟨_, (true), (by first | rfl | (simp; done) | (simp [*]; done)), H', ⟨by first | omega | exact Nat.le_refl _⟩, ⟨by refine bk ?_; exact BK330.out⟩, ⟨by refine bk ?_; exact BK331.out⟩, ⟨by refine bk ?_; exact BK332.out⟩, ⟨by repeat first | exact HB.out | refine bset ?_ ‹_› | apply below_alloc | apply pw_below_drewN | apply below_drew1⟩⟩
 case rest =>
  clear HC3
  (try clear c1); (try clear p2); (try clear c3); (try clear c5); (try clear c8); (try clear c10); (try clear c11); (try clear c14); (try clear c17); (try clear c18); (try clear hcz12_0); (try clear hcz12_1); (try clear hcz15_0); (try clear hcz15_1); (try clear hcz19_0); (try clear hcz19_1); (try clear hfz12_0); (try clear hfz12_1); (try clear hfz15_0); (try clear hfz15_1); (try clear hfz19_0); (try clear hfz19_1)
  obtain ⟨kq, x12_2, rfl, HA, HJ2, BK330, BK331, BK332, HB⟩ := hcut
  cases kq with
  | zero => exact absurd HA.out (by simp [ratio_Max.j0])
  | succ kj2 =>
   have H := HA.out
   clear HA
   simp only [ratio_Max.j0] at H
   by_cases c21 : x12_2 = true
   ·
    subst c21
    rw [if_pos rfl] at H
    simp only [Option.some.injEq, Prod.mk.injEq] at H
    obtain ⟨rfl, rfl⟩ := H
    have hnb22 := NB332_330.out
    have hnc22 := NB330_332.out
    have hnb23 := NB332_331.out
    have hnc23 := NB331_332.out
    have hcz24_0 : wc.cell? ⟨gb332, 0, none⟩ = some (.int .i64 0) := (blk_cell BK332.out 0).trans rfl
    have hcz24_1 : wc.cell? ⟨gb332, 1, none⟩ = some (.int .i64 0) := (blk_cell BK332.out 1).trans rfl
    have hfz24_0 := blk_frozen BK332.out 0
    have hfz24_1 := blk_frozen BK332.out 1
    go_wp2
    refine bodyPost_ret (results_cell_row rfl _ _ gb332 24 #[.int .i64 0, .int .i64 0] (0, 0) _ rfl (by refine bk ?_; refine blk_put (cs := #[.int .i64 0, .int .i64 0]) ?_ 1 _ rfl; refine bk ?_; refine blk_put (cs := #[.int .i64 0, .int .i64 0]) ?_ 0 _ rfl; refine bk ?_; exact BK332.out) Try.underlying24 rfl (by kernel_rfl)) rfl ?_
    exact ⟨by first | rfl | (simp [errW_none, errW_some] <;> rfl) | (simp [*, errW_none, errW_some] <;> rfl), by repeat first | exact HB.out | refine bset ?_ ‹_› | apply below_alloc | apply pw_below_drewN | apply below_drew1⟩
   ·
    replace c21 := Bool.eq_false_iff.mpr c21
    subst c21
    rw [if_neg (show ¬ (false = true) by decide)] at H
    replace H := Option.bind_eq_some_iff.mp H
    obtain ⟨t335, A250, H⟩ := H
    (try dsimp only at H)
    have A25 := Aside0.mk A250
    clear A250
    by_cases c26 : t335 > 0
    ·
     rw [if_pos c26] at H
     have c26b0 : decide (0 < t335) = true := decide_eq_true c26
     clear c26
     simp only [Option.some.injEq, Prod.mk.injEq] at H
     obtain ⟨rfl, rfl⟩ := H
     have hnb27 := NB331_330.out
     have hnc27 := NB330_331.out
     have hnb28 := NB331_332.out
     have hnc28 := NB332_331.out
     have hcz29_0 : wc.cell? ⟨gb331, 0, none⟩ = some (.int .i64 a1_0) := (blk_cell BK331.out 0).trans rfl
     have hcz29_1 : wc.cell? ⟨gb331, 1, none⟩ = some (.int .i64 a1_1) := (blk_cell BK331.out 1).trans rfl
     have hfz29_0 := blk_frozen BK331.out 0
     have hfz29_1 := blk_frozen BK331.out 1
     have hnb30 := NB330_332.out
     have hnc30 := NB332_330.out
     have hcz31_0 : wc.cell? ⟨gb330, 0, none⟩ = some (.int .i64 a0_0) := (blk_cell BK330.out 0).trans rfl
     have hcz31_1 : wc.cell? ⟨gb330, 1, none⟩ = some (.int .i64 a0_1) := (blk_cell BK330.out 1).trans rfl
     have hfz31_0 := blk_frozen BK330.out 0
     have hfz31_1 := blk_frozen BK330.out 1
     go_wp2_with (first | ((with_reducible refine gate_callee (f := 19) rfl ?_); refine goesL_ (some 16) rfl rfl Try.func19 (by kernel_rfl) rfl #[.agg #[.int .i64 a1_0, .int .i64 a1_1], .agg #[.int .i64 a0_0, .int .i64 a0_1]] rfl (by (try simp only [mp]); first | done | rfl | (simp only [ld]; rfl)) ?_; (with_reducible refine (ratio_Cmp.calls kj2 a1_0 a1_1 a0_0 a0_1 t335 _ A25.out).mono ?_); rintro e w32 ⟨rfl, hb⟩; refine ⟨_, rfl, ?_⟩; replace BK330 := kb BK330 hb; replace BK331 := kb BK331 hb; replace BK332 := kb BK332 hb; replace HB := hs' HB (by repeat first | (with_reducible exact HB.out) | refine bl1 ?_ | (with_reducible refine bset ?_ ‹_›) | exact HB.out) hb; (try clear hb); (try clear hb2); (try clear hk); (try clear hi); have hcz33_0 : w32.cell? ⟨gb331, 0, none⟩ = some (.int .i64 a1_0) := (blk_cell BK331.out 0).trans rfl; have hcz33_1 : w32.cell? ⟨gb331, 1, none⟩ = some (.int .i64 a1_1) := (blk_cell BK331.out 1).trans rfl; have hfz33_0 := blk_frozen BK331.out 0; have hfz33_1 := blk_frozen BK331.out 1; have hcz34_0 : w32.cell? ⟨gb332, 0, none⟩ = some (.int .i64 0) := (blk_cell BK332.out 0).trans rfl; have hcz34_1 : w32.cell? ⟨gb332, 1, none⟩ = some (.int .i64 0) := (blk_cell BK332.out 1).trans rfl; have hfz34_0 := blk_frozen BK332.out 0; have hfz34_1 := blk_frozen BK332.out 1))
     refine bodyPost_ret (results_cell_row rfl _ _ gb332 24 #[.int .i64 a1_0, .int .i64 a1_1] (0, 0) _ rfl (by refine bk ?_; refine blk_put (cs := #[.int .i64 a1_0, .int .i64 0]) ?_ 1 _ rfl; refine bk ?_; refine blk_put (cs := #[.int .i64 0, .int .i64 0]) ?_ 0 _ rfl; refine bk ?_; exact BK332.out) Try.underlying24 rfl (by kernel_rfl)) rfl ?_
     exact ⟨by first | rfl | (simp [errW_none, errW_some] <;> rfl) | (simp [*, errW_none, errW_some] <;> rfl), by repeat first | exact HB.out | refine bset ?_ ‹_› | apply below_alloc | apply pw_below_drewN | apply below_drew1⟩
    ·
     rw [if_neg c26] at H
     have c26b0 : decide (0 < t335) = false := decide_eq_false c26
     clear c26
     simp only [Option.some.injEq, Prod.mk.injEq] at H
     obtain ⟨rfl, rfl⟩ := H
     have hnb35 := NB331_330.out
     have hnc35 := NB330_331.out
     have hnb36 := NB331_332.out
     have hnc36 := NB332_331.out
     have hcz37_0 : wc.cell? ⟨gb331, 0, none⟩ = some (.int .i64 a1_0) := (blk_cell BK331.out 0).trans rfl
     have hcz37_1 : wc.cell? ⟨gb331, 1, none⟩ = some (.int .i64 a1_1) := (blk_cell BK331.out 1).trans rfl
     have hfz37_0 := blk_frozen BK331.out 0
     have hfz37_1 := blk_frozen BK331.out 1
     have hnb38 := NB330_332.out
     have hnc38 := NB332_330.out
     have hcz39_0 : wc.cell? ⟨gb330, 0, none⟩ = some (.int .i64 a0_0) := (blk_cell BK330.out 0).trans rfl
     have hcz39_1 : wc.cell? ⟨gb330, 1, none⟩ = some (.int .i64 a0_1) := (blk_cell BK330.out 1).trans rfl
     have hfz39_0 := blk_frozen BK330.out 0
     have hfz39_1 := blk_frozen BK330.out 1
     go_wp2_with (first | ((with_reducible refine gate_callee (f := 19) rfl ?_); refine goesL_ (some 16) rfl rfl Try.func19 (by kernel_rfl) rfl #[.agg #[.int .i64 a1_0, .int .i64 a1_1], .agg #[.int .i64 a0_0, .int .i64 a0_1]] rfl (by (try simp only [mp]); first | done | rfl | (simp only [ld]; rfl)) ?_; (with_reducible refine (ratio_Cmp.calls kj2 a1_0 a1_1 a0_0 a0_1 t335 _ A25.out).mono ?_); rintro e w40 ⟨rfl, hb⟩; refine ⟨_, rfl, ?_⟩; replace BK330 := kb BK330 hb; replace BK331 := kb BK331 hb; replace BK332 := kb BK332 hb; replace HB := hs' HB (by repeat first | (with_reducible exact HB.out) | refine bl1 ?_ | (with_reducible refine bset ?_ ‹_›) | exact HB.out) hb; (try clear hb); (try clear hb2); (try clear hk); (try clear hi); have hcz41_0 : w40.cell? ⟨gb330, 0, none⟩ = some (.int .i64 a0_0) := (blk_cell BK330.out 0).trans rfl; have hcz41_1 : w40.cell? ⟨gb330, 1, none⟩ = some (.int .i64 a0_1) := (blk_cell BK330.out 1).trans rfl; have hfz41_0 := blk_frozen BK330.out 0; have hfz41_1 := blk_frozen BK330.out 1; have hcz42_0 : w40.cell? ⟨gb332, 0, none⟩ = some (.int .i64 0) := (blk_cell BK332.out 0).trans rfl; have hcz42_1 : w40.cell? ⟨gb332, 1, none⟩ = some (.int .i64 0) := (blk_cell BK332.out 1).trans rfl; have hfz42_0 := blk_frozen BK332.out 0; have hfz42_1 := blk_frozen BK332.out 1))
     refine bodyPost_ret (results_cell_row rfl _ _ gb332 24 #[.int .i64 a0_0, .int .i64 a0_1] (0, 0) _ rfl (by refine bk ?_; refine blk_put (cs := #[.int .i64 a0_0, .int .i64 0]) ?_ 1 _ rfl; refine bk ?_; refine blk_put (cs := #[.int .i64 0, .int .i64 0]) ?_ 0 _ rfl; refine bk ?_; exact BK332.out) Try.underlying24 rfl (by kernel_rfl)) rfl ?_
     exact ⟨by first | rfl | (simp [errW_none, errW_some] <;> rfl) | (simp [*, errW_none, errW_some] <;> rfl), by repeat first | exact HB.out | refine bset ?_ ‹_› | apply below_alloc | apply pw_below_drewN | apply below_drew1⟩

/-! ### serinetteref01_Max: function 51 -/
def serinetteref01_Max.f (k : Nat) (a0_0 : Int) (a0_1 : Int) (a1_0 : Int) (a1_1 : Int) : Option (Int × Int) := (serinetteref01_both.f k a0_0 a0_1 a1_0 a1_1).bind fun t339 => (if t339 = true then ((serinetteref01_Cmp.f k a0_0 a0_1 a1_0 a1_1).bind fun t340 => (if t340 ≥ 0 then (some (a0_0, a0_1)) else (some (a1_0, a1_1)))) else ((serinetteref01_None.f).bind fun bt341 => (some (bt341.1, bt341.2))))
theorem serinetteref01_Max.mono : ∀ a0 a1 a2 a3 k, LeO (serinetteref01_Max.f k a0 a1 a2 a3) (serinetteref01_Max.f (k + 1) a0 a1 a2 a3) := by
 intro a0 a1 a2 a3 k
 unfold serinetteref01_Max.f
 repeat' first
   | (with_reducible exact serinetteref01_Cmp.mono _ _ _ _ _)
   | (with_reducible exact serinetteref01_both.mono _ _ _ _ _)
   | (with_reducible exact LeO.refl _)
   | (with_reducible exact LeO.none _)
   | (with_reducible refine LeO.ite ?_ ?_)
   | (with_reducible refine LeO.bind ?_ (fun _ => ?_))
   | exact serinetteref01_Cmp.mono _ _ _ _ _
   | exact serinetteref01_both.mono _ _ _ _ _
   | exact LeO.none _
   | refine LeO.ite ?_ ?_
   | refine LeO.bind ?_ (fun _ => ?_)
set_option maxHeartbeats 8000000 in
set_option maxRecDepth 100000 in
theorem serinetteref01_Max.calls (k : Nat) (a0_0 : Int) (a0_1 : Int) (a1_0 : Int) (a1_1 : Int) (r1 : Int) (r2 : Int) (w : World) (h : serinetteref01_Max.f k a0_0 a0_1 a1_0 a1_1 = some (r1, r2)) :
  Calls Try.prog 51 #[.agg #[.int .i64 a0_0, .int .i64 a0_1], .agg #[.int .i64 a1_0, .int .i64 a1_1]] w fun e w' => e = .returned (.agg #[.int .i64 r1, .int .i64 r2]) ∧ Below w.heap.size w w' := by
 have hu24 := Try.underlying24
 have HB := Aside0.mk (Below.refl w.heap.size w)
 have H : ((serinetteref01_both.f k a0_0 a0_1 a1_0 a1_1).bind fun t339 => (if t339 = true then ((serinetteref01_Cmp.f k a0_0 a0_1 a1_0 a1_1).bind fun t340 => (if t340 ≥ 0 then (some (a0_0, a0_1)) else (some (a1_0, a1_1)))) else ((serinetteref01_None.f).bind fun bt341 => (some (bt341.1, bt341.2))))) = some (r1, r2) := h
 clear h
 replace H := Option.bind_eq_some_iff.mp H
 obtain ⟨t339, A30, H⟩ := H
 (try dsimp only at H)
 have A3 := Aside0.mk A30
 clear A30
 by_cases c4 : t339 = true
 ·
  subst c4
  rw [if_pos rfl] at H
  replace H := Option.bind_eq_some_iff.mp H
  obtain ⟨t340, A50, H⟩ := H
  (try dsimp only at H)
  have A5 := Aside0.mk A50
  clear A50
  by_cases c6 : t340 ≥ 0
  ·
   rw [if_pos c6] at H
   have c6b0 : decide (0 ≤ t340) = true := decide_eq_true c6
   clear c6
   simp only [Option.some.injEq, Prod.mk.injEq] at H
   obtain ⟨rfl, rfl⟩ := H
   go_enter Try.func51, Try.ntmps51
   go_wp2_with (first | ((with_reducible refine gate_dst (N := 2) rfl ?_); refine box_event ?hg (N := 2) ?hd (cs := #[.int .i64 a0_0, .int .i64 a0_1]) (t := 24) ?hr ?_; (case hd => rfl); (case hg => rfl); (case hr => first | (go_simp; done) | (go_simp; rfl)); intro gb336 hg w7 hbox hb; have BK336 := Aside0.mk (hbox); have GW336 := hz_ hg HB; have GE336 := hz_ hg HB; replace HB := hs HB hb; clear hb hbox hg) | ((with_reducible refine gate_dst (N := 3) rfl ?_); refine box_event ?hg (N := 3) ?hd (cs := #[.int .i64 a1_0, .int .i64 a1_1]) (t := 24) ?hr ?_; (case hd => rfl); (case hg => rfl); (case hr => first | (go_simp; done) | (go_simp; rfl)); intro gb337 hg w8 hbox hb; have BK337 := Aside0.mk (hbox); have GW337 := bz' HB hg (by repeat first | (with_reducible exact HB.out) | refine bl1 ?_ | (with_reducible refine bset ?_ ‹_›) | exact HB.out); have GE337 := bz' HB hg (by repeat first | (with_reducible exact HB.out) | refine bl1 ?_ | (with_reducible refine bset ?_ ‹_›) | exact HB.out); have NB336_337 := nlk hg BK336; have NB337_336 := ngk hg BK336; replace BK336 := kb BK336 hb; replace HB := hs' HB (by repeat first | (with_reducible exact HB.out) | refine bl1 ?_ | (with_reducible refine bset ?_ ‹_›) | exact HB.out) hb; clear hb hbox hg) | ((with_reducible refine gate_dst (N := 4) rfl ?_); refine box_event ?hg (N := 4) ?hd (cs := #[.int .i64 0, .int .i64 0]) (t := 24) ?hr ?_; (case hd => rfl); (case hg => rfl); (case hr => first | (go_simp; done) | (go_simp; rfl)); intro gb338 hg w9 hbox hb; have BK338 := Aside0.mk (hbox); have GW338 := bz' HB hg (by repeat first | (with_reducible exact HB.out) | refine bl1 ?_ | (with_reducible refine bset ?_ ‹_›) | exact HB.out); have GE338 := bz' HB hg (by repeat first | (with_reducible exact HB.out) | refine bl1 ?_ | (with_reducible refine bset ?_ ‹_›) | exact HB.out); have NB336_338 := nlk hg BK336; have NB338_336 := ngk hg BK336; have NB337_338 := nlk hg BK337; have NB338_337 := ngk hg BK337; replace BK336 := kb BK336 hb; replace BK337 := kb BK337 hb; replace HB := hs' HB (by repeat first | (with_reducible exact HB.out) | refine bl1 ?_ | (with_reducible refine bset ?_ ‹_›) | exact HB.out) hb; clear hb hbox hg; have hnb10 := NB336_337.out; have hnc10 := NB337_336.out; have hnb11 := NB336_338.out; have hnc11 := NB338_336.out; have hcz12_0 : w9.cell? ⟨gb336, 0, none⟩ = some (.int .i64 a0_0) := (blk_cell BK336.out 0).trans rfl; have hcz12_1 : w9.cell? ⟨gb336, 1, none⟩ = some (.int .i64 a0_1) := (blk_cell BK336.out 1).trans rfl; have hfz12_0 := blk_frozen BK336.out 0; have hfz12_1 := blk_frozen BK336.out 1; have hnb13 := NB337_338.out; have hnc13 := NB338_337.out; have hcz14_0 : w9.cell? ⟨gb337, 0, none⟩ = some (.int .i64 a1_0) := (blk_cell BK337.out 0).trans rfl; have hcz14_1 : w9.cell? ⟨gb337, 1, none⟩ = some (.int .i64 a1_1) := (blk_cell BK337.out 1).trans rfl; have hfz14_0 := blk_frozen BK337.out 0; have hfz14_1 := blk_frozen BK337.out 1) | ((with_reducible refine gate_callee (f := 60) rfl ?_); refine goesL_ (some 7) rfl rfl Try.func60 (by kernel_rfl) rfl #[.agg #[.int .i64 a0_0, .int .i64 a0_1], .agg #[.int .i64 a1_0, .int .i64 a1_1]] rfl (by (try simp only [mp]); first | done | rfl | (simp only [ld]; rfl)) ?_; (with_reducible refine (serinetteref01_both.calls k a0_0 a0_1 a1_0 a1_1 true _ A3.out).mono ?_); rintro e w15 ⟨rfl, hb⟩; refine ⟨_, rfl, ?_⟩; replace BK336 := kb BK336 hb; replace BK337 := kb BK337 hb; replace BK338 := kb BK338 hb; replace HB := hs' HB (by repeat first | (with_reducible exact HB.out) | refine bl1 ?_ | (with_reducible refine bset ?_ ‹_›) | exact HB.out) hb; (try clear hb); (try clear hb2); (try clear hk); (try clear hi); have hcz16_0 : w15.cell? ⟨gb336, 0, none⟩ = some (.int .i64 a0_0) := (blk_cell BK336.out 0).trans rfl; have hcz16_1 : w15.cell? ⟨gb336, 1, none⟩ = some (.int .i64 a0_1) := (blk_cell BK336.out 1).trans rfl; have hfz16_0 := blk_frozen BK336.out 0; have hfz16_1 := blk_frozen BK336.out 1; have hcz17_0 : w15.cell? ⟨gb337, 0, none⟩ = some (.int .i64 a1_0) := (blk_cell BK337.out 0).trans rfl; have hcz17_1 : w15.cell? ⟨gb337, 1, none⟩ = some (.int .i64 a1_1) := (blk_cell BK337.out 1).trans rfl; have hfz17_0 := blk_frozen BK337.out 0; have hfz17_1 := blk_frozen BK337.out 1) | ((with_reducible refine gate_callee (f := 37) rfl ?_); refine goesL_ (some 12) rfl rfl Try.func37 (by kernel_rfl) rfl #[.agg #[.int .i64 a0_0, .int .i64 a0_1], .agg #[.int .i64 a1_0, .int .i64 a1_1]] rfl (by (try simp only [mp]); first | done | rfl | (simp only [ld]; rfl)) ?_; (with_reducible refine (serinetteref01_Cmp.calls k a0_0 a0_1 a1_0 a1_1 t340 _ A5.out).mono ?_); rintro e w18 ⟨rfl, hb⟩; refine ⟨_, rfl, ?_⟩; replace BK336 := kb BK336 hb; replace BK337 := kb BK337 hb; replace BK338 := kb BK338 hb; replace HB := hs' HB (by repeat first | (with_reducible exact HB.out) | refine bl1 ?_ | (with_reducible refine bset ?_ ‹_›) | exact HB.out) hb; (try clear hb); (try clear hb2); (try clear hk); (try clear hi); have hcz19_0 : w18.cell? ⟨gb336, 0, none⟩ = some (.int .i64 a0_0) := (blk_cell BK336.out 0).trans rfl; have hcz19_1 : w18.cell? ⟨gb336, 1, none⟩ = some (.int .i64 a0_1) := (blk_cell BK336.out 1).trans rfl; have hfz19_0 := blk_frozen BK336.out 0; have hfz19_1 := blk_frozen BK336.out 1; have hcz20_0 : w18.cell? ⟨gb338, 0, none⟩ = some (.int .i64 0) := (blk_cell BK338.out 0).trans rfl; have hcz20_1 : w18.cell? ⟨gb338, 1, none⟩ = some (.int .i64 0) := (blk_cell BK338.out 1).trans rfl; have hfz20_0 := blk_frozen BK338.out 0; have hfz20_1 := blk_frozen BK338.out 1))
   refine bodyPost_ret (results_cell_row rfl _ _ gb338 24 #[.int .i64 a0_0, .int .i64 a0_1] (0, 0) _ rfl (by refine bk ?_; refine blk_put (cs := #[.int .i64 a0_0, .int .i64 0]) ?_ 1 _ rfl; refine bk ?_; refine blk_put (cs := #[.int .i64 0, .int .i64 0]) ?_ 0 _ rfl; refine bk ?_; exact BK338.out) Try.underlying24 rfl (by kernel_rfl)) rfl ?_
   exact ⟨by first | rfl | (simp [errW_none, errW_some] <;> rfl) | (simp [*, errW_none, errW_some] <;> rfl), by repeat first | exact HB.out | refine bset ?_ ‹_› | apply below_alloc | apply pw_below_drewN | apply below_drew1⟩
  ·
   rw [if_neg c6] at H
   have c6b0 : decide (0 ≤ t340) = false := decide_eq_false c6
   clear c6
   simp only [Option.some.injEq, Prod.mk.injEq] at H
   obtain ⟨rfl, rfl⟩ := H
   go_enter Try.func51, Try.ntmps51
   go_wp2_with (first | ((with_reducible refine gate_dst (N := 2) rfl ?_); refine box_event ?hg (N := 2) ?hd (cs := #[.int .i64 a0_0, .int .i64 a0_1]) (t := 24) ?hr ?_; (case hd => rfl); (case hg => rfl); (case hr => first | (go_simp; done) | (go_simp; rfl)); intro gb336 hg w21 hbox hb; have BK336 := Aside0.mk (hbox); have GW336 := hz_ hg HB; have GE336 := hz_ hg HB; replace HB := hs HB hb; clear hb hbox hg) | ((with_reducible refine gate_dst (N := 3) rfl ?_); refine box_event ?hg (N := 3) ?hd (cs := #[.int .i64 a1_0, .int .i64 a1_1]) (t := 24) ?hr ?_; (case hd => rfl); (case hg => rfl); (case hr => first | (go_simp; done) | (go_simp; rfl)); intro gb337 hg w22 hbox hb; have BK337 := Aside0.mk (hbox); have GW337 := bz' HB hg (by repeat first | (with_reducible exact HB.out) | refine bl1 ?_ | (with_reducible refine bset ?_ ‹_›) | exact HB.out); have GE337 := bz' HB hg (by repeat first | (with_reducible exact HB.out) | refine bl1 ?_ | (with_reducible refine bset ?_ ‹_›) | exact HB.out); have NB336_337 := nlk hg BK336; have NB337_336 := ngk hg BK336; replace BK336 := kb BK336 hb; replace HB := hs' HB (by repeat first | (with_reducible exact HB.out) | refine bl1 ?_ | (with_reducible refine bset ?_ ‹_›) | exact HB.out) hb; clear hb hbox hg) | ((with_reducible refine gate_dst (N := 4) rfl ?_); refine box_event ?hg (N := 4) ?hd (cs := #[.int .i64 0, .int .i64 0]) (t := 24) ?hr ?_; (case hd => rfl); (case hg => rfl); (case hr => first | (go_simp; done) | (go_simp; rfl)); intro gb338 hg w23 hbox hb; have BK338 := Aside0.mk (hbox); have GW338 := bz' HB hg (by repeat first | (with_reducible exact HB.out) | refine bl1 ?_ | (with_reducible refine bset ?_ ‹_›) | exact HB.out); have GE338 := bz' HB hg (by repeat first | (with_reducible exact HB.out) | refine bl1 ?_ | (with_reducible refine bset ?_ ‹_›) | exact HB.out); have NB336_338 := nlk hg BK336; have NB338_336 := ngk hg BK336; have NB337_338 := nlk hg BK337; have NB338_337 := ngk hg BK337; replace BK336 := kb BK336 hb; replace BK337 := kb BK337 hb; replace HB := hs' HB (by repeat first | (with_reducible exact HB.out) | refine bl1 ?_ | (with_reducible refine bset ?_ ‹_›) | exact HB.out) hb; clear hb hbox hg; have hnb24 := NB336_337.out; have hnc24 := NB337_336.out; have hnb25 := NB336_338.out; have hnc25 := NB338_336.out; have hcz26_0 : w23.cell? ⟨gb336, 0, none⟩ = some (.int .i64 a0_0) := (blk_cell BK336.out 0).trans rfl; have hcz26_1 : w23.cell? ⟨gb336, 1, none⟩ = some (.int .i64 a0_1) := (blk_cell BK336.out 1).trans rfl; have hfz26_0 := blk_frozen BK336.out 0; have hfz26_1 := blk_frozen BK336.out 1; have hnb27 := NB337_338.out; have hnc27 := NB338_337.out; have hcz28_0 : w23.cell? ⟨gb337, 0, none⟩ = some (.int .i64 a1_0) := (blk_cell BK337.out 0).trans rfl; have hcz28_1 : w23.cell? ⟨gb337, 1, none⟩ = some (.int .i64 a1_1) := (blk_cell BK337.out 1).trans rfl; have hfz28_0 := blk_frozen BK337.out 0; have hfz28_1 := blk_frozen BK337.out 1) | ((with_reducible refine gate_callee (f := 60) rfl ?_); refine goesL_ (some 7) rfl rfl Try.func60 (by kernel_rfl) rfl #[.agg #[.int .i64 a0_0, .int .i64 a0_1], .agg #[.int .i64 a1_0, .int .i64 a1_1]] rfl (by (try simp only [mp]); first | done | rfl | (simp only [ld]; rfl)) ?_; (with_reducible refine (serinetteref01_both.calls k a0_0 a0_1 a1_0 a1_1 true _ A3.out).mono ?_); rintro e w29 ⟨rfl, hb⟩; refine ⟨_, rfl, ?_⟩; replace BK336 := kb BK336 hb; replace BK337 := kb BK337 hb; replace BK338 := kb BK338 hb; replace HB := hs' HB (by repeat first | (with_reducible exact HB.out) | refine bl1 ?_ | (with_reducible refine bset ?_ ‹_›) | exact HB.out) hb; (try clear hb); (try clear hb2); (try clear hk); (try clear hi); have hcz30_0 : w29.cell? ⟨gb336, 0, none⟩ = some (.int .i64 a0_0) := (blk_cell BK336.out 0).trans rfl; have hcz30_1 : w29.cell? ⟨gb336, 1, none⟩ = some (.int .i64 a0_1) := (blk_cell BK336.out 1).trans rfl; have hfz30_0 := blk_frozen BK336.out 0; have hfz30_1 := blk_frozen BK336.out 1; have hcz31_0 : w29.cell? ⟨gb337, 0, none⟩ = some (.int .i64 a1_0) := (blk_cell BK337.out 0).trans rfl; have hcz31_1 : w29.cell? ⟨gb337, 1, none⟩ = some (.int .i64 a1_1) := (blk_cell BK337.out 1).trans rfl; have hfz31_0 := blk_frozen BK337.out 0; have hfz31_1 := blk_frozen BK337.out 1) | ((with_reducible refine gate_callee (f := 37) rfl ?_); refine goesL_ (some 12) rfl rfl Try.func37 (by kernel_rfl) rfl #[.agg #[.int .i64 a0_0, .int .i64 a0_1], .agg #[.int .i64 a1_0, .int .i64 a1_1]] rfl (by (try simp only [mp]); first | done | rfl | (simp only [ld]; rfl)) ?_; (with_reducible refine (serinetteref01_Cmp.calls k a0_0 a0_1 a1_0 a1_1 t340 _ A5.out).mono ?_); rintro e w32 ⟨rfl, hb⟩; refine ⟨_, rfl, ?_⟩; replace BK336 := kb BK336 hb; replace BK337 := kb BK337 hb; replace BK338 := kb BK338 hb; replace HB := hs' HB (by repeat first | (with_reducible exact HB.out) | refine bl1 ?_ | (with_reducible refine bset ?_ ‹_›) | exact HB.out) hb; (try clear hb); (try clear hb2); (try clear hk); (try clear hi); have hcz33_0 : w32.cell? ⟨gb337, 0, none⟩ = some (.int .i64 a1_0) := (blk_cell BK337.out 0).trans rfl; have hcz33_1 : w32.cell? ⟨gb337, 1, none⟩ = some (.int .i64 a1_1) := (blk_cell BK337.out 1).trans rfl; have hfz33_0 := blk_frozen BK337.out 0; have hfz33_1 := blk_frozen BK337.out 1; have hcz34_0 : w32.cell? ⟨gb338, 0, none⟩ = some (.int .i64 0) := (blk_cell BK338.out 0).trans rfl; have hcz34_1 : w32.cell? ⟨gb338, 1, none⟩ = some (.int .i64 0) := (blk_cell BK338.out 1).trans rfl; have hfz34_0 := blk_frozen BK338.out 0; have hfz34_1 := blk_frozen BK338.out 1))
   refine bodyPost_ret (results_cell_row rfl _ _ gb338 24 #[.int .i64 a1_0, .int .i64 a1_1] (0, 0) _ rfl (by refine bk ?_; refine blk_put (cs := #[.int .i64 a1_0, .int .i64 0]) ?_ 1 _ rfl; refine bk ?_; refine blk_put (cs := #[.int .i64 0, .int .i64 0]) ?_ 0 _ rfl; refine bk ?_; exact BK338.out) Try.underlying24 rfl (by kernel_rfl)) rfl ?_
   exact ⟨by first | rfl | (simp [errW_none, errW_some] <;> rfl) | (simp [*, errW_none, errW_some] <;> rfl), by repeat first | exact HB.out | refine bset ?_ ‹_› | apply below_alloc | apply pw_below_drewN | apply below_drew1⟩
 ·
  replace c4 := Bool.eq_false_iff.mpr c4
  subst c4
  rw [if_neg (show ¬ (false = true) by decide)] at H
  replace H := Option.bind_eq_some_iff.mp H
  obtain ⟨⟨t341, t342⟩, A350, H⟩ := H
  (try dsimp only at H)
  have A35 := Aside0.mk A350
  clear A350
  simp only [Option.some.injEq, Prod.mk.injEq] at H
  obtain ⟨rfl, rfl⟩ := H
  go_enter Try.func51, Try.ntmps51
  go_wp2_with (first | ((with_reducible refine gate_dst (N := 2) rfl ?_); refine box_event ?hg (N := 2) ?hd (cs := #[.int .i64 a0_0, .int .i64 a0_1]) (t := 24) ?hr ?_; (case hd => rfl); (case hg => rfl); (case hr => first | (go_simp; done) | (go_simp; rfl)); intro gb336 hg w36 hbox hb; have BK336 := Aside0.mk (hbox); have GW336 := hz_ hg HB; have GE336 := hz_ hg HB; replace HB := hs HB hb; clear hb hbox hg) | ((with_reducible refine gate_dst (N := 3) rfl ?_); refine box_event ?hg (N := 3) ?hd (cs := #[.int .i64 a1_0, .int .i64 a1_1]) (t := 24) ?hr ?_; (case hd => rfl); (case hg => rfl); (case hr => first | (go_simp; done) | (go_simp; rfl)); intro gb337 hg w37 hbox hb; have BK337 := Aside0.mk (hbox); have GW337 := bz' HB hg (by repeat first | (with_reducible exact HB.out) | refine bl1 ?_ | (with_reducible refine bset ?_ ‹_›) | exact HB.out); have GE337 := bz' HB hg (by repeat first | (with_reducible exact HB.out) | refine bl1 ?_ | (with_reducible refine bset ?_ ‹_›) | exact HB.out); have NB336_337 := nlk hg BK336; have NB337_336 := ngk hg BK336; replace BK336 := kb BK336 hb; replace HB := hs' HB (by repeat first | (with_reducible exact HB.out) | refine bl1 ?_ | (with_reducible refine bset ?_ ‹_›) | exact HB.out) hb; clear hb hbox hg) | ((with_reducible refine gate_dst (N := 4) rfl ?_); refine box_event ?hg (N := 4) ?hd (cs := #[.int .i64 0, .int .i64 0]) (t := 24) ?hr ?_; (case hd => rfl); (case hg => rfl); (case hr => first | (go_simp; done) | (go_simp; rfl)); intro gb338 hg w38 hbox hb; have BK338 := Aside0.mk (hbox); have GW338 := bz' HB hg (by repeat first | (with_reducible exact HB.out) | refine bl1 ?_ | (with_reducible refine bset ?_ ‹_›) | exact HB.out); have GE338 := bz' HB hg (by repeat first | (with_reducible exact HB.out) | refine bl1 ?_ | (with_reducible refine bset ?_ ‹_›) | exact HB.out); have NB336_338 := nlk hg BK336; have NB338_336 := ngk hg BK336; have NB337_338 := nlk hg BK337; have NB338_337 := ngk hg BK337; replace BK336 := kb BK336 hb; replace BK337 := kb BK337 hb; replace HB := hs' HB (by repeat first | (with_reducible exact HB.out) | refine bl1 ?_ | (with_reducible refine bset ?_ ‹_›) | exact HB.out) hb; clear hb hbox hg; have hnb39 := NB336_337.out; have hnc39 := NB337_336.out; have hnb40 := NB336_338.out; have hnc40 := NB338_336.out; have hcz41_0 : w38.cell? ⟨gb336, 0, none⟩ = some (.int .i64 a0_0) := (blk_cell BK336.out 0).trans rfl; have hcz41_1 : w38.cell? ⟨gb336, 1, none⟩ = some (.int .i64 a0_1) := (blk_cell BK336.out 1).trans rfl; have hfz41_0 := blk_frozen BK336.out 0; have hfz41_1 := blk_frozen BK336.out 1; have hnb42 := NB337_338.out; have hnc42 := NB338_337.out; have hcz43_0 : w38.cell? ⟨gb337, 0, none⟩ = some (.int .i64 a1_0) := (blk_cell BK337.out 0).trans rfl; have hcz43_1 : w38.cell? ⟨gb337, 1, none⟩ = some (.int .i64 a1_1) := (blk_cell BK337.out 1).trans rfl; have hfz43_0 := blk_frozen BK337.out 0; have hfz43_1 := blk_frozen BK337.out 1) | ((with_reducible refine gate_callee (f := 60) rfl ?_); refine goesL_ (some 7) rfl rfl Try.func60 (by kernel_rfl) rfl #[.agg #[.int .i64 a0_0, .int .i64 a0_1], .agg #[.int .i64 a1_0, .int .i64 a1_1]] rfl (by (try simp only [mp]); first | done | rfl | (simp only [ld]; rfl)) ?_; (with_reducible refine (serinetteref01_both.calls k a0_0 a0_1 a1_0 a1_1 false _ A3.out).mono ?_); rintro e w44 ⟨rfl, hb⟩; refine ⟨_, rfl, ?_⟩; replace BK336 := kb BK336 hb; replace BK337 := kb BK337 hb; replace BK338 := kb BK338 hb; replace HB := hs' HB (by repeat first | (with_reducible exact HB.out) | refine bl1 ?_ | (with_reducible refine bset ?_ ‹_›) | exact HB.out) hb; (try clear hb); (try clear hb2); (try clear hk); (try clear hi)) | ((with_reducible refine gate_callee (f := 53) rfl ?_); refine goesL_ (some 9) rfl rfl Try.func53 (by kernel_rfl) rfl #[] rfl (by (try simp only [mp]); first | done | rfl | (simp only [ld]; rfl)) ?_; (with_reducible refine (serinetteref01_None.calls  t341 t342 _ A35.out).mono ?_); rintro e w45 ⟨rfl, hb⟩; refine ⟨_, rfl, ?_⟩; replace BK336 := kb BK336 hb; replace BK337 := kb BK337 hb; replace BK338 := kb BK338 hb; replace HB := hs' HB (by repeat first | (with_reducible exact HB.out) | refine bl1 ?_ | (with_reducible refine bset ?_ ‹_›) | exact HB.out) hb; (try clear hb); (try clear hb2); (try clear hk); (try clear hi); have hcz46_0 : w45.cell? ⟨gb338, 0, none⟩ = some (.int .i64 0) := (blk_cell BK338.out 0).trans rfl; have hcz46_1 : w45.cell? ⟨gb338, 1, none⟩ = some (.int .i64 0) := (blk_cell BK338.out 1).trans rfl; have hfz46_0 := blk_frozen BK338.out 0; have hfz46_1 := blk_frozen BK338.out 1))
  refine bodyPost_ret (results_cell_row rfl _ _ gb338 24 #[.int .i64 t341, .int .i64 t342] (0, 0) _ rfl (by refine bk ?_; refine blk_put (cs := #[.int .i64 t341, .int .i64 0]) ?_ 1 _ rfl; refine bk ?_; refine blk_put (cs := #[.int .i64 0, .int .i64 0]) ?_ 0 _ rfl; refine bk ?_; exact BK338.out) Try.underlying24 rfl (by kernel_rfl)) rfl ?_
  exact ⟨by first | rfl | (simp [errW_none, errW_some] <;> rfl) | (simp [*, errW_none, errW_some] <;> rfl), by repeat first | exact HB.out | refine bset ?_ ‹_› | apply below_alloc | apply pw_below_drewN | apply below_drew1⟩
end Go.Proofs.Ytgecbfemlpmpeaa.SNumberSays
