/- Turned by a program of this session out of what the print prints for the functions that NumberSays reaches: the same proofs in shorter words. -/
import Derived.Test.YtgecbfemlpmpeaaSNumberSays0
import Derived.Test.YtgecbfemlpmpeaaSNumberSays2
namespace Go.Proofs.Ytgecbfemlpmpeaa.SNumberSays
open Go.RowKit Go.Proofs.Ytgecbfemlpmpeaa.Wd.PrintWords Go.Proofs.Ytgecbfemlpmpeaa.Wd.PrintLast Go.Proofs.Ytgecbfemlpmpeaa.Wd.PrintMore
set_option linter.unusedVariables false
set_option linter.unusedSimpArgs false
attribute [local go_sem] max2_int min2_int max_two min_two max_three min_three max_four min_four   -- for this text's walks alone
/-! ### ratio_Div: function 17 -/
def ratio_Div.f (k : Nat) (a0_0 : Int) (a0_1 : Int) (a1_0 : Int) (a1_1 : Int) : Option (Int × Int) := (ratio_Is.f k a0_0 a0_1).bind fun t155 => (if t155 = true then ((ratio_Is.f k a1_0 a1_1).bind fun t156 => (if t156 = true then ((ratio_Make.f k (wrap64 (a0_0 * a1_1)) (wrap64 (a0_1 * a1_0))).bind fun bt157 => (some (bt157.1, bt157.2))) else (some (0, 0)))) else (some (0, 0)))
theorem ratio_Div.mono : ∀ a0 a1 a2 a3 k, LeO (ratio_Div.f k a0 a1 a2 a3) (ratio_Div.f (k + 1) a0 a1 a2 a3) := by
 intro a0 a1 a2 a3 k
 unfold ratio_Div.f
 repeat' first
   | (with_reducible exact ratio_Is.mono _ _ _)
   | (with_reducible exact ratio_Make.mono _ _ _)
   | (with_reducible exact LeO.refl _)
   | (with_reducible exact LeO.none _)
   | (with_reducible refine LeO.ite ?_ ?_)
   | (with_reducible refine LeO.bind ?_ (fun _ => ?_))
   | exact ratio_Is.mono _ _ _
   | exact ratio_Make.mono _ _ _
   | exact LeO.none _
   | refine LeO.ite ?_ ?_
   | refine LeO.bind ?_ (fun _ => ?_)
set_option maxHeartbeats 8000000 in
set_option maxRecDepth 100000 in
theorem ratio_Div.calls (k : Nat) (a0_0 : Int) (a0_1 : Int) (a1_0 : Int) (a1_1 : Int) (r1 : Int) (r2 : Int) (w : World) (h : ratio_Div.f k a0_0 a0_1 a1_0 a1_1 = some (r1, r2)) :
  Calls Try.prog 17 #[.agg #[.int .i64 a0_0, .int .i64 a0_1], .agg #[.int .i64 a1_0, .int .i64 a1_1]] w fun e w' => e = .returned (.agg #[.int .i64 r1, .int .i64 r2]) ∧ Below w.heap.size w w' := by
 have hu24 := Try.underlying24
 have HB := Aside0.mk (Below.refl w.heap.size w)
 have H : ((ratio_Is.f k a0_0 a0_1).bind fun t155 => (if t155 = true then ((ratio_Is.f k a1_0 a1_1).bind fun t156 => (if t156 = true then ((ratio_Make.f k (wrap64 (a0_0 * a1_1)) (wrap64 (a0_1 * a1_0))).bind fun bt157 => (some (bt157.1, bt157.2))) else (some (0, 0)))) else (some (0, 0)))) = some (r1, r2) := h
 clear h
 replace H := Option.bind_eq_some_iff.mp H
 obtain ⟨t155, A30, H⟩ := H
 (try dsimp only at H)
 have A3 := Aside0.mk A30
 clear A30
 by_cases c4 : t155 = true
 ·
  subst c4
  rw [if_pos rfl] at H
  replace H := Option.bind_eq_some_iff.mp H
  obtain ⟨t156, A50, H⟩ := H
  (try dsimp only at H)
  have A5 := Aside0.mk A50
  clear A50
  by_cases c6 : t156 = true
  ·
   subst c6
   rw [if_pos rfl] at H
   replace H := Option.bind_eq_some_iff.mp H
   obtain ⟨⟨t157, t158⟩, A70, H⟩ := H
   (try dsimp only at H)
   have A7 := Aside0.mk A70
   clear A70
   simp only [Option.some.injEq, Prod.mk.injEq] at H
   obtain ⟨rfl, rfl⟩ := H
   go_enter Try.func17, Try.ntmps17
   go_wp2_with (first | ((with_reducible refine gate_dst (N := 2) rfl ?_); refine box_event ?hg (N := 2) ?hd (cs := #[.int .i64 a0_0, .int .i64 a0_1]) (t := 24) ?hr ?_; (case hd => rfl); (case hg => rfl); (case hr => first | (go_simp; done) | (go_simp; rfl)); intro gb152 hg w8 hbox hb; have BK152 := Aside0.mk (hbox); have GW152 := hz_ hg HB; have GE152 := hz_ hg HB; replace HB := hs HB hb; clear hb hbox hg) | ((with_reducible refine gate_dst (N := 3) rfl ?_); refine box_event ?hg (N := 3) ?hd (cs := #[.int .i64 a1_0, .int .i64 a1_1]) (t := 24) ?hr ?_; (case hd => rfl); (case hg => rfl); (case hr => first | (go_simp; done) | (go_simp; rfl)); intro gb153 hg w9 hbox hb; have BK153 := Aside0.mk (hbox); have GW153 := bz' HB hg (by repeat first | (with_reducible exact HB.out) | refine bl1 ?_ | (with_reducible refine bset ?_ ‹_›) | exact HB.out); have GE153 := bz' HB hg (by repeat first | (with_reducible exact HB.out) | refine bl1 ?_ | (with_reducible refine bset ?_ ‹_›) | exact HB.out); have NB152_153 := nlk hg BK152; have NB153_152 := ngk hg BK152; replace BK152 := kb BK152 hb; replace HB := hs' HB (by repeat first | (with_reducible exact HB.out) | refine bl1 ?_ | (with_reducible refine bset ?_ ‹_›) | exact HB.out) hb; clear hb hbox hg) | ((with_reducible refine gate_dst (N := 4) rfl ?_); refine box_event ?hg (N := 4) ?hd (cs := #[.int .i64 0, .int .i64 0]) (t := 24) ?hr ?_; (case hd => rfl); (case hg => rfl); (case hr => first | (go_simp; done) | (go_simp; rfl)); intro gb154 hg w10 hbox hb; have BK154 := Aside0.mk (hbox); have GW154 := bz' HB hg (by repeat first | (with_reducible exact HB.out) | refine bl1 ?_ | (with_reducible refine bset ?_ ‹_›) | exact HB.out); have GE154 := bz' HB hg (by repeat first | (with_reducible exact HB.out) | refine bl1 ?_ | (with_reducible refine bset ?_ ‹_›) | exact HB.out); have NB152_154 := nlk hg BK152; have NB154_152 := ngk hg BK152; have NB153_154 := nlk hg BK153; have NB154_153 := ngk hg BK153; replace BK152 := kb BK152 hb; replace BK153 := kb BK153 hb; replace HB := hs' HB (by repeat first | (with_reducible exact HB.out) | refine bl1 ?_ | (with_reducible refine bset ?_ ‹_›) | exact HB.out) hb; clear hb hbox hg; have hnb11 := NB152_153.out; have hnc11 := NB153_152.out; have hnb12 := NB152_154.out; have hnc12 := NB154_152.out; have hcz13_0 : w10.cell? ⟨gb152, 0, none⟩ = some (.int .i64 a0_0) := (blk_cell BK152.out 0).trans rfl; have hcz13_1 : w10.cell? ⟨gb152, 1, none⟩ = some (.int .i64 a0_1) := (blk_cell BK152.out 1).trans rfl; have hfz13_0 := blk_frozen BK152.out 0; have hfz13_1 := blk_frozen BK152.out 1) | ((with_reducible refine gate_callee (f := 33) rfl ?_); refine goesL_ (some 6) rfl rfl Try.func33 (by kernel_rfl) rfl #[.agg #[.int .i64 a0_0, .int .i64 a0_1]] rfl (by (try simp only [mp]); first | done | rfl | (simp only [ld]; rfl)) ?_; (with_reducible refine (ratio_Is.calls k a0_0 a0_1 true _ A3.out).mono ?_); rintro e w14 ⟨rfl, hb⟩; refine ⟨_, rfl, ?_⟩; replace BK152 := kb BK152 hb; replace BK153 := kb BK153 hb; replace BK154 := kb BK154 hb; replace HB := hs' HB (by repeat first | (with_reducible exact HB.out) | refine bl1 ?_ | (with_reducible refine bset ?_ ‹_›) | exact HB.out) hb; (try clear hb); (try clear hb2); (try clear hk); (try clear hi); have hnb15 := NB153_154.out; have hnc15 := NB154_153.out; have hcz16_0 : w14.cell? ⟨gb153, 0, none⟩ = some (.int .i64 a1_0) := (blk_cell BK153.out 0).trans rfl; have hcz16_1 : w14.cell? ⟨gb153, 1, none⟩ = some (.int .i64 a1_1) := (blk_cell BK153.out 1).trans rfl; have hfz16_0 := blk_frozen BK153.out 0; have hfz16_1 := blk_frozen BK153.out 1) | (go_at_call 33; (with_reducible refine (ratio_Is.calls k a1_0 a1_1 true _ A5.out).mono ?_); rintro e w17 ⟨rfl, hb⟩; replace BK152 := kb BK152 hb; replace BK153 := kb BK153 hb; replace BK154 := kb BK154 hb; replace HB := hs' HB (by repeat first | (with_reducible exact HB.out) | refine bl1 ?_ | (with_reducible refine bset ?_ ‹_›) | exact HB.out) hb; (try clear hb); (try clear hb2); (try clear hk); (try clear hi); have hcz18_0 : w17.cell? ⟨gb152, 0, none⟩ = some (.int .i64 a0_0) := (blk_cell BK152.out 0).trans rfl; have hcz18_1 : w17.cell? ⟨gb152, 1, none⟩ = some (.int .i64 a0_1) := (blk_cell BK152.out 1).trans rfl; have hfz18_0 := blk_frozen BK152.out 0; have hfz18_1 := blk_frozen BK152.out 1; have hcz19_0 : w17.cell? ⟨gb153, 0, none⟩ = some (.int .i64 a1_0) := (blk_cell BK153.out 0).trans rfl; have hcz19_1 : w17.cell? ⟨gb153, 1, none⟩ = some (.int .i64 a1_1) := (blk_cell BK153.out 1).trans rfl; have hfz19_0 := blk_frozen BK153.out 0; have hfz19_1 := blk_frozen BK153.out 1) | ((with_reducible refine gate_callee (f := 20) rfl ?_); refine goesL_ (some 24) rfl rfl Try.func20 (by kernel_rfl) rfl #[.int .i64 (wrap64 (a0_0 * a1_1)), .int .i64 (wrap64 (a0_1 * a1_0))] rfl (by (try simp only [mp]); first | done | rfl | (simp only [ld]; rfl)) ?_; (with_reducible refine (ratio_Make.calls k (wrap64 (a0_0 * a1_1)) (wrap64 (a0_1 * a1_0)) t157 t158 _ A7.out).mono ?_); rintro e w20 ⟨rfl, hb⟩; refine ⟨_, rfl, ?_⟩; replace BK152 := kb BK152 hb; replace BK153 := kb BK153 hb; replace BK154 := kb BK154 hb; replace HB := hs' HB (by repeat first | (with_reducible exact HB.out) | refine bl1 ?_ | (with_reducible refine bset ?_ ‹_›) | exact HB.out) hb; (try clear hb); (try clear hb2); (try clear hk); (try clear hi); have hcz21_0 : w20.cell? ⟨gb154, 0, none⟩ = some (.int .i64 0) := (blk_cell BK154.out 0).trans rfl; have hcz21_1 : w20.cell? ⟨gb154, 1, none⟩ = some (.int .i64 0) := (blk_cell BK154.out 1).trans rfl; have hfz21_0 := blk_frozen BK154.out 0; have hfz21_1 := blk_frozen BK154.out 1))
   refine bodyPost_ret (results_cell_row rfl _ _ gb154 24 #[.int .i64 t157, .int .i64 t158] (0, 0) _ rfl (by refine bk ?_; refine blk_put (cs := #[.int .i64 t157, .int .i64 0]) ?_ 1 _ rfl; refine bk ?_; refine blk_put (cs := #[.int .i64 0, .int .i64 0]) ?_ 0 _ rfl; refine bk ?_; exact BK154.out) Try.underlying24 rfl (by kernel_rfl)) rfl ?_
   exact ⟨by first | rfl | (simp [errW_none, errW_some] <;> rfl) | (simp [*, errW_none, errW_some] <;> rfl), by repeat first | exact HB.out | refine bset ?_ ‹_› | apply below_alloc | apply pw_below_drewN | apply below_drew1⟩
  ·
   replace c6 := Bool.eq_false_iff.mpr c6
   subst c6
   rw [if_neg (show ¬ (false = true) by decide)] at H
   simp only [Option.some.injEq, Prod.mk.injEq] at H
   obtain ⟨rfl, rfl⟩ := H
   go_enter Try.func17, Try.ntmps17
   go_wp2_with (first | ((with_reducible refine gate_dst (N := 2) rfl ?_); refine box_event ?hg (N := 2) ?hd (cs := #[.int .i64 a0_0, .int .i64 a0_1]) (t := 24) ?hr ?_; (case hd => rfl); (case hg => rfl); (case hr => first | (go_simp; done) | (go_simp; rfl)); intro gb152 hg w22 hbox hb; have BK152 := Aside0.mk (hbox); have GW152 := hz_ hg HB; have GE152 := hz_ hg HB; replace HB := hs HB hb; clear hb hbox hg) | ((with_reducible refine gate_dst (N := 3) rfl ?_); refine box_event ?hg (N := 3) ?hd (cs := #[.int .i64 a1_0, .int .i64 a1_1]) (t := 24) ?hr ?_; (case hd => rfl); (case hg => rfl); (case hr => first | (go_simp; done) | (go_simp; rfl)); intro gb153 hg w23 hbox hb; have BK153 := Aside0.mk (hbox); have GW153 := bz' HB hg (by repeat first | (with_reducible exact HB.out) | refine bl1 ?_ | (with_reducible refine bset ?_ ‹_›) | exact HB.out); have GE153 := bz' HB hg (by repeat first | (with_reducible exact HB.out) | refine bl1 ?_ | (with_reducible refine bset ?_ ‹_›) | exact HB.out); have NB152_153 := nlk hg BK152; have NB153_152 := ngk hg BK152; replace BK152 := kb BK152 hb; replace HB := hs' HB (by repeat first | (with_reducible exact HB.out) | refine bl1 ?_ | (with_reducible refine bset ?_ ‹_›) | exact HB.out) hb; clear hb hbox hg) | ((with_reducible refine gate_dst (N := 4) rfl ?_); refine box_event ?hg (N := 4) ?hd (cs := #[.int .i64 0, .int .i64 0]) (t := 24) ?hr ?_; (case hd => rfl); (case hg => rfl); (case hr => first | (go_simp; done) | (go_simp; rfl)); intro gb154 hg w24 hbox hb; have BK154 := Aside0.mk (hbox); have GW154 := bz' HB hg (by repeat first | (with_reducible exact HB.out) | refine bl1 ?_ | (with_reducible refine bset ?_ ‹_›) | exact HB.out); have GE154 := bz' HB hg (by repeat first | (with_reducible exact HB.out) | refine bl1 ?_ | (with_reducible refine bset ?_ ‹_›) | exact HB.out); have NB152_154 := nlk hg BK152; have NB154_152 := ngk hg BK152; have NB153_154 := nlk hg BK153; have NB154_153 := ngk hg BK153; replace BK152 := kb BK152 hb; replace BK153 := kb BK153 hb; replace HB := hs' HB (by repeat first | (with_reducible exact HB.out) | refine bl1 ?_ | (with_reducible refine bset ?_ ‹_›) | exact HB.out) hb; clear hb hbox hg; have hnb25 := NB152_153.out; have hnc25 := NB153_152.out; have hnb26 := NB152_154.out; have hnc26 := NB154_152.out; have hcz27_0 : w24.cell? ⟨gb152, 0, none⟩ = some (.int .i64 a0_0) := (blk_cell BK152.out 0).trans rfl; have hcz27_1 : w24.cell? ⟨gb152, 1, none⟩ = some (.int .i64 a0_1) := (blk_cell BK152.out 1).trans rfl; have hfz27_0 := blk_frozen BK152.out 0; have hfz27_1 := blk_frozen BK152.out 1) | ((with_reducible refine gate_callee (f := 33) rfl ?_); refine goesL_ (some 6) rfl rfl Try.func33 (by kernel_rfl) rfl #[.agg #[.int .i64 a0_0, .int .i64 a0_1]] rfl (by (try simp only [mp]); first | done | rfl | (simp only [ld]; rfl)) ?_; (with_reducible refine (ratio_Is.calls k a0_0 a0_1 true _ A3.out).mono ?_); rintro e w28 ⟨rfl, hb⟩; refine ⟨_, rfl, ?_⟩; replace BK152 := kb BK152 hb; replace BK153 := kb BK153 hb; replace BK154 := kb BK154 hb; replace HB := hs' HB (by repeat first | (with_reducible exact HB.out) | refine bl1 ?_ | (with_reducible refine bset ?_ ‹_›) | exact HB.out) hb; (try clear hb); (try clear hb2); (try clear hk); (try clear hi); have hnb29 := NB153_154.out; have hnc29 := NB154_153.out; have hcz30_0 : w28.cell? ⟨gb153, 0, none⟩ = some (.int .i64 a1_0) := (blk_cell BK153.out 0).trans rfl; have hcz30_1 : w28.cell? ⟨gb153, 1, none⟩ = some (.int .i64 a1_1) := (blk_cell BK153.out 1).trans rfl; have hfz30_0 := blk_frozen BK153.out 0; have hfz30_1 := blk_frozen BK153.out 1) | (go_at_call 33; (with_reducible refine (ratio_Is.calls k a1_0 a1_1 false _ A5.out).mono ?_); rintro e w31 ⟨rfl, hb⟩; replace BK152 := kb BK152 hb; replace BK153 := kb BK153 hb; replace BK154 := kb BK154 hb; replace HB := hs' HB (by repeat first | (with_reducible exact HB.out) | refine bl1 ?_ | (with_reducible refine bset ?_ ‹_›) | exact HB.out) hb; (try clear hb); (try clear hb2); (try clear hk); (try clear hi); have hcz32_0 : w31.cell? ⟨gb154, 0, none⟩ = some (.int .i64 0) := (blk_cell BK154.out 0).trans rfl; have hcz32_1 : w31.cell? ⟨gb154, 1, none⟩ = some (.int .i64 0) := (blk_cell BK154.out 1).trans rfl; have hfz32_0 := blk_frozen BK154.out 0; have hfz32_1 := blk_frozen BK154.out 1))
   refine bodyPost_ret (results_cell_row rfl _ _ gb154 24 #[.int .i64 0, .int .i64 0] (0, 0) _ rfl (by refine bk ?_; refine blk_put (cs := #[.int .i64 0, .int .i64 0]) ?_ 1 _ rfl; refine bk ?_; refine blk_put (cs := #[.int .i64 0, .int .i64 0]) ?_ 0 _ rfl; refine bk ?_; exact BK154.out) Try.underlying24 rfl (by kernel_rfl)) rfl ?_
   exact ⟨by first | rfl | (simp [errW_none, errW_some] <;> rfl) | (simp [*, errW_none, errW_some] <;> rfl), by repeat first | exact HB.out | refine bset ?_ ‹_› | apply below_alloc | apply pw_below_drewN | apply below_drew1⟩
 ·
  replace c4 := Bool.eq_false_iff.mpr c4
  subst c4
  rw [if_neg (show ¬ (false = true) by decide)] at H
  simp only [Option.some.injEq, Prod.mk.injEq] at H
  obtain ⟨rfl, rfl⟩ := H
  go_enter Try.func17, Try.ntmps17
  go_wp2_with (first | ((with_reducible refine gate_dst (N := 2) rfl ?_); refine box_event ?hg (N := 2) ?hd (cs := #[.int .i64 a0_0, .int .i64 a0_1]) (t := 24) ?hr ?_; (case hd => rfl); (case hg => rfl); (case hr => first | (go_simp; done) | (go_simp; rfl)); intro gb152 hg w33 hbox hb; have BK152 := Aside0.mk (hbox); have GW152 := hz_ hg HB; have GE152 := hz_ hg HB; replace HB := hs HB hb; clear hb hbox hg) | ((with_reducible refine gate_dst (N := 3) rfl ?_); refine box_event ?hg (N := 3) ?hd (cs := #[.int .i64 a1_0, .int .i64 a1_1]) (t := 24) ?hr ?_; (case hd => rfl); (case hg => rfl); (case hr => first | (go_simp; done) | (go_simp; rfl)); intro gb153 hg w34 hbox hb; have BK153 := Aside0.mk (hbox); have GW153 := bz' HB hg (by repeat first | (with_reducible exact HB.out) | refine bl1 ?_ | (with_reducible refine bset ?_ ‹_›) | exact HB.out); have GE153 := bz' HB hg (by repeat first | (with_reducible exact HB.out) | refine bl1 ?_ | (with_reducible refine bset ?_ ‹_›) | exact HB.out); have NB152_153 := nlk hg BK152; have NB153_152 := ngk hg BK152; replace BK152 := kb BK152 hb; replace HB := hs' HB (by repeat first | (with_reducible exact HB.out) | refine bl1 ?_ | (with_reducible refine bset ?_ ‹_›) | exact HB.out) hb; clear hb hbox hg) | ((with_reducible refine gate_dst (N := 4) rfl ?_); refine box_event ?hg (N := 4) ?hd (cs := #[.int .i64 0, .int .i64 0]) (t := 24) ?hr ?_; (case hd => rfl); (case hg => rfl); (case hr => first | (go_simp; done) | (go_simp; rfl)); intro gb154 hg w35 hbox hb; have BK154 := Aside0.mk (hbox); have GW154 := bz' HB hg (by repeat first | (with_reducible exact HB.out) | refine bl1 ?_ | (with_reducible refine bset ?_ ‹_›) | exact HB.out); have GE154 := bz' HB hg (by repeat first | (with_reducible exact HB.out) | refine bl1 ?_ | (with_reducible refine bset ?_ ‹_›) | exact HB.out); have NB152_154 := nlk hg BK152; have NB154_152 := ngk hg BK152; have NB153_154 := nlk hg BK153; have NB154_153 := ngk hg BK153; replace BK152 := kb BK152 hb; replace BK153 := kb BK153 hb; replace HB := hs' HB (by repeat first | (with_reducible exact HB.out) | refine bl1 ?_ | (with_reducible refine bset ?_ ‹_›) | exact HB.out) hb; clear hb hbox hg; have hnb36 := NB152_153.out; have hnc36 := NB153_152.out; have hnb37 := NB152_154.out; have hnc37 := NB154_152.out; have hcz38_0 : w35.cell? ⟨gb152, 0, none⟩ = some (.int .i64 a0_0) := (blk_cell BK152.out 0).trans rfl; have hcz38_1 : w35.cell? ⟨gb152, 1, none⟩ = some (.int .i64 a0_1) := (blk_cell BK152.out 1).trans rfl; have hfz38_0 := blk_frozen BK152.out 0; have hfz38_1 := blk_frozen BK152.out 1) | ((with_reducible refine gate_callee (f := 33) rfl ?_); refine goesL_ (some 6) rfl rfl Try.func33 (by kernel_rfl) rfl #[.agg #[.int .i64 a0_0, .int .i64 a0_1]] rfl (by (try simp only [mp]); first | done | rfl | (simp only [ld]; rfl)) ?_; (with_reducible refine (ratio_Is.calls k a0_0 a0_1 false _ A3.out).mono ?_); rintro e w39 ⟨rfl, hb⟩; refine ⟨_, rfl, ?_⟩; replace BK152 := kb BK152 hb; replace BK153 := kb BK153 hb; replace BK154 := kb BK154 hb; replace HB := hs' HB (by repeat first | (with_reducible exact HB.out) | refine bl1 ?_ | (with_reducible refine bset ?_ ‹_›) | exact HB.out) hb; (try clear hb); (try clear hb2); (try clear hk); (try clear hi); have hnb40 := NB154_153.out; have hnc40 := NB153_154.out; have hcz41_0 : w39.cell? ⟨gb154, 0, none⟩ = some (.int .i64 0) := (blk_cell BK154.out 0).trans rfl; have hcz41_1 : w39.cell? ⟨gb154, 1, none⟩ = some (.int .i64 0) := (blk_cell BK154.out 1).trans rfl; have hfz41_0 := blk_frozen BK154.out 0; have hfz41_1 := blk_frozen BK154.out 1))
  refine bodyPost_ret (results_cell_row rfl _ _ gb154 24 #[.int .i64 0, .int .i64 0] (0, 0) _ rfl (by refine bk ?_; refine blk_put (cs := #[.int .i64 0, .int .i64 0]) ?_ 1 _ rfl; refine bk ?_; refine blk_put (cs := #[.int .i64 0, .int .i64 0]) ?_ 0 _ rfl; refine bk ?_; exact BK154.out) Try.underlying24 rfl (by kernel_rfl)) rfl ?_
  exact ⟨by first | rfl | (simp [errW_none, errW_some] <;> rfl) | (simp [*, errW_none, errW_some] <;> rfl), by repeat first | exact HB.out | refine bset ?_ ‹_› | apply below_alloc | apply pw_below_drewN | apply below_drew1⟩

/-! ### ratio_floor: function 64 -/
def ratio_floor.f (a0 : Int) (a1 : Int) : Option (Int) := if a1 = 0 then (none) else (if (Int.tmod a0 a1) < 0 then (some (wrap64 ((wrap64 (Int.tdiv a0 a1)) - 1))) else (some (wrap64 (Int.tdiv a0 a1))))
set_option maxHeartbeats 8000000 in
set_option maxRecDepth 100000 in
theorem ratio_floor.calls (a0 : Int) (a1 : Int) (r : Int) (w : World) (h : ratio_floor.f a0 a1 = some r) :
  Calls Try.prog 64 #[.int .i64 a0, .int .i64 a1] w fun e w' => e = .returned (.int .i64 r) ∧ Drawn0 w w' := by
 have H : (if a1 = 0 then (none) else (if (Int.tmod a0 a1) < 0 then (some (wrap64 ((wrap64 (Int.tdiv a0 a1)) - 1))) else (some (wrap64 (Int.tdiv a0 a1))))) = some r := h
 clear h
 by_cases c3 : a1 = 0
 ·
  rw [if_pos c3] at H
  exact absurd H (by simp)
 ·
  rw [if_neg c3] at H
  have c3b0 : (a1 == 0) = false := beq_eq_false_iff_ne.mpr c3
  have c3b1 : (a1 != 0) = true := bne_iff_ne.mpr c3
  by_cases c4 : (Int.tmod a0 a1) < 0
  ·
   rw [if_pos c4] at H
   have c4b0 : decide ((Int.tmod a0 a1) < 0) = true := decide_eq_true c4
   clear c4
   obtain rfl := Option.some.inj H
   go_enter Try.func64, Try.ntmps64
   go_wp2
   go_ret
   exact ⟨by first | rfl | (simp; done) | (simp [*]; done), by repeat (first | exact Drawn0.refl _ | apply Drawn0.step)⟩
  ·
   rw [if_neg c4] at H
   have c4b0 : decide ((Int.tmod a0 a1) < 0) = false := decide_eq_false c4
   clear c4
   obtain rfl := Option.some.inj H
   go_enter Try.func64, Try.ntmps64
   go_wp2
   go_ret
   exact ⟨by first | rfl | (simp; done) | (simp [*]; done), by repeat (first | exact Drawn0.refl _ | apply Drawn0.step)⟩

/-! ### ratio_Floor: function 28 -/
def ratio_Floor.f (k : Nat) (a0_0 : Int) (a0_1 : Int) : Option (Int × Int) := (ratio_Is.f k a0_0 a0_1).bind fun t161 => (if t161 = true then ((ratio_floor.f a0_0 a0_1).bind fun t162 => ((ratio_Make.f k t162 1).bind fun bt163 => (some (bt163.1, bt163.2)))) else (some (0, 0)))
theorem ratio_Floor.mono : ∀ a0 a1 k, LeO (ratio_Floor.f k a0 a1) (ratio_Floor.f (k + 1) a0 a1) := by
 intro a0 a1 k
 unfold ratio_Floor.f
 repeat' first
   | (with_reducible exact ratio_Is.mono _ _ _)
   | (with_reducible exact ratio_Make.mono _ _ _)
   | (with_reducible exact LeO.refl _)
   | (with_reducible exact LeO.none _)
   | (with_reducible refine LeO.ite ?_ ?_)
   | (with_reducible refine LeO.bind ?_ (fun _ => ?_))
   | exact ratio_Is.mono _ _ _
   | exact ratio_Make.mono _ _ _
   | exact LeO.none _
   | refine LeO.ite ?_ ?_
   | refine LeO.bind ?_ (fun _ => ?_)
set_option maxHeartbeats 8000000 in
set_option maxRecDepth 100000 in
theorem ratio_Floor.calls (k : Nat) (a0_0 : Int) (a0_1 : Int) (r1 : Int) (r2 : Int) (w : World) (h : ratio_Floor.f k a0_0 a0_1 = some (r1, r2)) :
  Calls Try.prog 28 #[.agg #[.int .i64 a0_0, .int .i64 a0_1]] w fun e w' => e = .returned (.agg #[.int .i64 r1, .int .i64 r2]) ∧ Below w.heap.size w w' := by
 have hu24 := Try.underlying24
 have HB := Aside0.mk (Below.refl w.heap.size w)
 have H : ((ratio_Is.f k a0_0 a0_1).bind fun t161 => (if t161 = true then ((ratio_floor.f a0_0 a0_1).bind fun t162 => ((ratio_Make.f k t162 1).bind fun bt163 => (some (bt163.1, bt163.2)))) else (some (0, 0)))) = some (r1, r2) := h
 clear h
 replace H := Option.bind_eq_some_iff.mp H
 obtain ⟨t161, A20, H⟩ := H
 (try dsimp only at H)
 have A2 := Aside0.mk A20
 clear A20
 by_cases c3 : t161 = true
 ·
  subst c3
  rw [if_pos rfl] at H
  replace H := Option.bind_eq_some_iff.mp H
  obtain ⟨t162, A40, H⟩ := H
  (try dsimp only at H)
  have A4 := Aside0.mk A40
  clear A40
  replace H := Option.bind_eq_some_iff.mp H
  obtain ⟨⟨t163, t164⟩, A50, H⟩ := H
  (try dsimp only at H)
  have A5 := Aside0.mk A50
  clear A50
  simp only [Option.some.injEq, Prod.mk.injEq] at H
  obtain ⟨rfl, rfl⟩ := H
  go_enter Try.func28, Try.ntmps28
  go_wp2_with (first | ((with_reducible refine gate_dst (N := 1) rfl ?_); refine box_event ?hg (N := 1) ?hd (cs := #[.int .i64 a0_0, .int .i64 a0_1]) (t := 24) ?hr ?_; (case hd => rfl); (case hg => rfl); (case hr => first | (go_simp; done) | (go_simp; rfl)); intro gb159 hg w6 hbox hb; have BK159 := Aside0.mk (hbox); have GW159 := hz_ hg HB; have GE159 := hz_ hg HB; replace HB := hs HB hb; clear hb hbox hg) | ((with_reducible refine gate_dst (N := 2) rfl ?_); refine box_event ?hg (N := 2) ?hd (cs := #[.int .i64 0, .int .i64 0]) (t := 24) ?hr ?_; (case hd => rfl); (case hg => rfl); (case hr => first | (go_simp; done) | (go_simp; rfl)); intro gb160 hg w7 hbox hb; have BK160 := Aside0.mk (hbox); have GW160 := bz' HB hg (by repeat first | (with_reducible exact HB.out) | refine bl1 ?_ | (with_reducible refine bset ?_ ‹_›) | exact HB.out); have GE160 := bz' HB hg (by repeat first | (with_reducible exact HB.out) | refine bl1 ?_ | (with_reducible refine bset ?_ ‹_›) | exact HB.out); have NB159_160 := nlk hg BK159; have NB160_159 := ngk hg BK159; replace BK159 := kb BK159 hb; replace HB := hs' HB (by repeat first | (with_reducible exact HB.out) | refine bl1 ?_ | (with_reducible refine bset ?_ ‹_›) | exact HB.out) hb; clear hb hbox hg; have hnb8 := NB159_160.out; have hnc8 := NB160_159.out; have hcz9_0 : w7.cell? ⟨gb159, 0, none⟩ = some (.int .i64 a0_0) := (blk_cell BK159.out 0).trans rfl; have hcz9_1 : w7.cell? ⟨gb159, 1, none⟩ = some (.int .i64 a0_1) := (blk_cell BK159.out 1).trans rfl; have hfz9_0 := blk_frozen BK159.out 0; have hfz9_1 := blk_frozen BK159.out 1) | ((with_reducible refine gate_callee (f := 33) rfl ?_); refine goesL_ (some 4) rfl rfl Try.func33 (by kernel_rfl) rfl #[.agg #[.int .i64 a0_0, .int .i64 a0_1]] rfl (by (try simp only [mp]); first | done | rfl | (simp only [ld]; rfl)) ?_; (with_reducible refine (ratio_Is.calls k a0_0 a0_1 true _ A2.out).mono ?_); rintro e w10 ⟨rfl, hb⟩; refine ⟨_, rfl, ?_⟩; replace BK159 := kb BK159 hb; replace BK160 := kb BK160 hb; replace HB := hs' HB (by repeat first | (with_reducible exact HB.out) | refine bl1 ?_ | (with_reducible refine bset ?_ ‹_›) | exact HB.out) hb; (try clear hb); (try clear hb2); (try clear hk); (try clear hi); have hcz11_0 : w10.cell? ⟨gb159, 0, none⟩ = some (.int .i64 a0_0) := (blk_cell BK159.out 0).trans rfl; have hcz11_1 : w10.cell? ⟨gb159, 1, none⟩ = some (.int .i64 a0_1) := (blk_cell BK159.out 1).trans rfl; have hfz11_0 := blk_frozen BK159.out 0; have hfz11_1 := blk_frozen BK159.out 1) | ((with_reducible refine gate_callee (f := 64) rfl ?_); refine goesL_ (some 11) rfl rfl Try.func64 (by kernel_rfl) rfl #[.int .i64 a0_0, .int .i64 a0_1] rfl (by (try simp only [mp]); first | done | rfl | (simp only [ld]; rfl)) ?_; (with_reducible refine (ratio_floor.calls a0_0 a0_1 t162 _ A4.out).mono ?_); rintro e w' ⟨rfl, ⟨nd, rfl⟩⟩; refine ⟨_, rfl, ?_⟩; (try (rw [drewN_self w10]; generalize hq_ : World.drewN w10 _ = w10; have n0_ : Aside0 (w10.heap[gb159]? = some (.cells #[.int .i64 a0_0, .int .i64 a0_1] 24 (0, 0))) := ⟨by rw [← hq_]; exact (bk BK159.out)⟩; have n1_ : Aside0 (w10.heap[gb160]? = some (.cells #[.int .i64 0, .int .i64 0] 24 (0, 0))) := ⟨by rw [← hq_]; exact (bk BK160.out)⟩; have n2_ : Aside0 (Below w.heap.size w w10) := ⟨by rw [← hq_]; exact (by repeat first | (with_reducible exact HB.out) | refine bl1 ?_ | (with_reducible refine bset ?_ ‹_›) | exact HB.out)⟩; clear BK159 BK160 HB hq_; have BK159 := n0_; have BK160 := n1_; have HB := n2_; clear n0_ n1_ n2_))) | ((with_reducible refine gate_callee (f := 20) rfl ?_); refine goesL_ (some 12) rfl rfl Try.func20 (by kernel_rfl) rfl #[.int .i64 t162, .int .i64 1] rfl (by (try simp only [mp]); first | done | rfl | (simp only [ld]; rfl)) ?_; (with_reducible refine (ratio_Make.calls k t162 1 t163 t164 _ A5.out).mono ?_); rintro e w12 ⟨rfl, hb⟩; refine ⟨_, rfl, ?_⟩; replace BK159 := kb BK159 hb; replace BK160 := kb BK160 hb; replace HB := hs' HB (by repeat first | (with_reducible exact HB.out) | refine bl1 ?_ | (with_reducible refine bset ?_ ‹_›) | exact HB.out) hb; (try clear hb); (try clear hb2); (try clear hk); (try clear hi); have hcz13_0 : w12.cell? ⟨gb160, 0, none⟩ = some (.int .i64 0) := (blk_cell BK160.out 0).trans rfl; have hcz13_1 : w12.cell? ⟨gb160, 1, none⟩ = some (.int .i64 0) := (blk_cell BK160.out 1).trans rfl; have hfz13_0 := blk_frozen BK160.out 0; have hfz13_1 := blk_frozen BK160.out 1))
  refine bodyPost_ret (results_cell_row rfl _ _ gb160 24 #[.int .i64 t163, .int .i64 t164] (0, 0) _ rfl (by refine bk ?_; refine blk_put (cs := #[.int .i64 t163, .int .i64 0]) ?_ 1 _ rfl; refine bk ?_; refine blk_put (cs := #[.int .i64 0, .int .i64 0]) ?_ 0 _ rfl; refine bk ?_; exact BK160.out) Try.underlying24 rfl (by kernel_rfl)) rfl ?_
  exact ⟨by first | rfl | (simp [errW_none, errW_some] <;> rfl) | (simp [*, errW_none, errW_some] <;> rfl), by repeat first | exact HB.out | refine bset ?_ ‹_› | apply below_alloc | apply pw_below_drewN | apply below_drew1⟩
 ·
  replace c3 := Bool.eq_false_iff.mpr c3
  subst c3
  rw [if_neg (show ¬ (false = true) by decide)] at H
  simp only [Option.some.injEq, Prod.mk.injEq] at H
  obtain ⟨rfl, rfl⟩ := H
  go_enter Try.func28, Try.ntmps28
  go_wp2_with (first | ((with_reducible refine gate_dst (N := 1) rfl ?_); refine box_event ?hg (N := 1) ?hd (cs := #[.int .i64 a0_0, .int .i64 a0_1]) (t := 24) ?hr ?_; (case hd => rfl); (case hg => rfl); (case hr => first | (go_simp; done) | (go_simp; rfl)); intro gb159 hg w14 hbox hb; have BK159 := Aside0.mk (hbox); have GW159 := hz_ hg HB; have GE159 := hz_ hg HB; replace HB := hs HB hb; clear hb hbox hg) | ((with_reducible refine gate_dst (N := 2) rfl ?_); refine box_event ?hg (N := 2) ?hd (cs := #[.int .i64 0, .int .i64 0]) (t := 24) ?hr ?_; (case hd => rfl); (case hg => rfl); (case hr => first | (go_simp; done) | (go_simp; rfl)); intro gb160 hg w15 hbox hb; have BK160 := Aside0.mk (hbox); have GW160 := bz' HB hg (by repeat first | (with_reducible exact HB.out) | refine bl1 ?_ | (with_reducible refine bset ?_ ‹_›) | exact HB.out); have GE160 := bz' HB hg (by repeat first | (with_reducible exact HB.out) | refine bl1 ?_ | (with_reducible refine bset ?_ ‹_›) | exact HB.out); have NB159_160 := nlk hg BK159; have NB160_159 := ngk hg BK159; replace BK159 := kb BK159 hb; replace HB := hs' HB (by repeat first | (with_reducible exact HB.out) | refine bl1 ?_ | (with_reducible refine bset ?_ ‹_›) | exact HB.out) hb; clear hb hbox hg; have hnb16 := NB159_160.out; have hnc16 := NB160_159.out; have hcz17_0 : w15.cell? ⟨gb159, 0, none⟩ = some (.int .i64 a0_0) := (blk_cell BK159.out 0).trans rfl; have hcz17_1 : w15.cell? ⟨gb159, 1, none⟩ = some (.int .i64 a0_1) := (blk_cell BK159.out 1).trans rfl; have hfz17_0 := blk_frozen BK159.out 0; have hfz17_1 := blk_frozen BK159.out 1) | ((with_reducible refine gate_callee (f := 33) rfl ?_); refine goesL_ (some 4) rfl rfl Try.func33 (by kernel_rfl) rfl #[.agg #[.int .i64 a0_0, .int .i64 a0_1]] rfl (by (try simp only [mp]); first | done | rfl | (simp only [ld]; rfl)) ?_; (with_reducible refine (ratio_Is.calls k a0_0 a0_1 false _ A2.out).mono ?_); rintro e w18 ⟨rfl, hb⟩; refine ⟨_, rfl, ?_⟩; replace BK159 := kb BK159 hb; replace BK160 := kb BK160 hb; replace HB := hs' HB (by repeat first | (with_reducible exact HB.out) | refine bl1 ?_ | (with_reducible refine bset ?_ ‹_›) | exact HB.out) hb; (try clear hb); (try clear hb2); (try clear hk); (try clear hi); have hcz19_0 : w18.cell? ⟨gb160, 0, none⟩ = some (.int .i64 0) := (blk_cell BK160.out 0).trans rfl; have hcz19_1 : w18.cell? ⟨gb160, 1, none⟩ = some (.int .i64 0) := (blk_cell BK160.out 1).trans rfl; have hfz19_0 := blk_frozen BK160.out 0; have hfz19_1 := blk_frozen BK160.out 1))
  refine bodyPost_ret (results_cell_row rfl _ _ gb160 24 #[.int .i64 0, .int .i64 0] (0, 0) _ rfl (by refine bk ?_; refine blk_put (cs := #[.int .i64 0, .int .i64 0]) ?_ 1 _ rfl; refine bk ?_; refine blk_put (cs := #[.int .i64 0, .int .i64 0]) ?_ 0 _ rfl; refine bk ?_; exact BK160.out) Try.underlying24 rfl (by kernel_rfl)) rfl ?_
  exact ⟨by first | rfl | (simp [errW_none, errW_some] <;> rfl) | (simp [*, errW_none, errW_some] <;> rfl), by repeat first | exact HB.out | refine bset ?_ ‹_› | apply below_alloc | apply pw_below_drewN | apply below_drew1⟩

/-! ### ratio_Round: function 29 -/
def ratio_Round.f (k : Nat) (a0_0 : Int) (a0_1 : Int) : Option (Int × Int) := (ratio_Is.f k a0_0 a0_1).bind fun t167 => (if t167 = true then ((ratio_floor.f a0_0 a0_1).bind fun t168 => (if (wrap64 (2 * (wrap64 (a0_0 - (wrap64 (t168 * a0_1)))))) > a0_1 then ((ratio_Make.f k (wrap64 (t168 + 1)) 1).bind fun bt169 => (some (bt169.1, bt169.2))) else (if (wrap64 (2 * (wrap64 (a0_0 - (wrap64 (t168 * a0_1)))))) = a0_1 then (if (Int.tmod t168 2) = 0 then ((ratio_Make.f k t168 1).bind fun bt171 => (some (bt171.1, bt171.2))) else ((ratio_Make.f k (wrap64 (t168 + 1)) 1).bind fun bt173 => (some (bt173.1, bt173.2)))) else ((ratio_Make.f k t168 1).bind fun bt175 => (some (bt175.1, bt175.2)))))) else (some (0, 0)))
theorem ratio_Round.mono : ∀ a0 a1 k, LeO (ratio_Round.f k a0 a1) (ratio_Round.f (k + 1) a0 a1) := by
 intro a0 a1 k
 unfold ratio_Round.f
 repeat' first
   | (with_reducible exact ratio_Is.mono _ _ _)
   | (with_reducible exact ratio_Make.mono _ _ _)
   | (with_reducible exact LeO.refl _)
   | (with_reducible exact LeO.none _)
   | (with_reducible refine LeO.ite ?_ ?_)
   | (with_reducible refine LeO.bind ?_ (fun _ => ?_))
   | exact ratio_Is.mono _ _ _
   | exact ratio_Make.mono _ _ _
   | exact LeO.none _
   | refine LeO.ite ?_ ?_
   | refine LeO.bind ?_ (fun _ => ?_)
set_option maxHeartbeats 8000000 in
set_option maxRecDepth 100000 in
theorem ratio_Round.calls (k : Nat) (a0_0 : Int) (a0_1 : Int) (r1 : Int) (r2 : Int) (w : World) (h : ratio_Round.f k a0_0 a0_1 = some (r1, r2)) :
  Calls Try.prog 29 #[.agg #[.int .i64 a0_0, .int .i64 a0_1]] w fun e w' => e = .returned (.agg #[.int .i64 r1, .int .i64 r2]) ∧ Below w.heap.size w w' := by
 have hu24 := Try.underlying24
 have HB := Aside0.mk (Below.refl w.heap.size w)
 have H : ((ratio_Is.f k a0_0 a0_1).bind fun t167 => (if t167 = true then ((ratio_floor.f a0_0 a0_1).bind fun t168 => (if (wrap64 (2 * (wrap64 (a0_0 - (wrap64 (t168 * a0_1)))))) > a0_1 then ((ratio_Make.f k (wrap64 (t168 + 1)) 1).bind fun bt169 => (some (bt169.1, bt169.2))) else (if (wrap64 (2 * (wrap64 (a0_0 - (wrap64 (t168 * a0_1)))))) = a0_1 then (if (Int.tmod t168 2) = 0 then ((ratio_Make.f k t168 1).bind fun bt171 => (some (bt171.1, bt171.2))) else ((ratio_Make.f k (wrap64 (t168 + 1)) 1).bind fun bt173 => (some (bt173.1, bt173.2)))) else ((ratio_Make.f k t168 1).bind fun bt175 => (some (bt175.1, bt175.2)))))) else (some (0, 0)))) = some (r1, r2) := h
 clear h
 replace H := Option.bind_eq_some_iff.mp H
 obtain ⟨t167, A20, H⟩ := H
 (try dsimp only at H)
 have A2 := Aside0.mk A20
 clear A20
 by_cases c3 : t167 = true
 ·
  subst c3
  rw [if_pos rfl] at H
  replace H := Option.bind_eq_some_iff.mp H
  obtain ⟨t168, A40, H⟩ := H
  (try dsimp only at H)
  have A4 := Aside0.mk A40
  clear A40
  by_cases c5 : (wrap64 (2 * (wrap64 (a0_0 - (wrap64 (t168 * a0_1)))))) > a0_1
  ·
   rw [if_pos c5] at H
   have c5b0 : decide (a0_1 < (wrap64 (2 * (wrap64 (a0_0 - (wrap64 (t168 * a0_1))))))) = true := decide_eq_true c5
   clear c5
   replace H := Option.bind_eq_some_iff.mp H
   obtain ⟨⟨t169, t170⟩, A60, H⟩ := H
   (try dsimp only at H)
   have A6 := Aside0.mk A60
   clear A60
   simp only [Option.some.injEq, Prod.mk.injEq] at H
   obtain ⟨rfl, rfl⟩ := H
   go_enter Try.func29, Try.ntmps29
   go_wp2_with (first | ((with_reducible refine gate_dst (N := 1) rfl ?_); refine box_event ?hg (N := 1) ?hd (cs := #[.int .i64 a0_0, .int .i64 a0_1]) (t := 24) ?hr ?_; (case hd => rfl); (case hg => rfl); (case hr => first | (go_simp; done) | (go_simp; rfl)); intro gb165 hg w7 hbox hb; have BK165 := Aside0.mk (hbox); have GW165 := hz_ hg HB; have GE165 := hz_ hg HB; replace HB := hs HB hb; clear hb hbox hg) | ((with_reducible refine gate_dst (N := 2) rfl ?_); refine box_event ?hg (N := 2) ?hd (cs := #[.int .i64 0, .int .i64 0]) (t := 24) ?hr ?_; (case hd => rfl); (case hg => rfl); (case hr => first | (go_simp; done) | (go_simp; rfl)); intro gb166 hg w8 hbox hb; have BK166 := Aside0.mk (hbox); have GW166 := bz' HB hg (by repeat first | (with_reducible exact HB.out) | refine bl1 ?_ | (with_reducible refine bset ?_ ‹_›) | exact HB.out); have GE166 := bz' HB hg (by repeat first | (with_reducible exact HB.out) | refine bl1 ?_ | (with_reducible refine bset ?_ ‹_›) | exact HB.out); have NB165_166 := nlk hg BK165; have NB166_165 := ngk hg BK165; replace BK165 := kb BK165 hb; replace HB := hs' HB (by repeat first | (with_reducible exact HB.out) | refine bl1 ?_ | (with_reducible refine bset ?_ ‹_›) | exact HB.out) hb; clear hb hbox hg; have hnb9 := NB165_166.out; have hnc9 := NB166_165.out; have hcz10_0 : w8.cell? ⟨gb165, 0, none⟩ = some (.int .i64 a0_0) := (blk_cell BK165.out 0).trans rfl; have hcz10_1 : w8.cell? ⟨gb165, 1, none⟩ = some (.int .i64 a0_1) := (blk_cell BK165.out 1).trans rfl; have hfz10_0 := blk_frozen BK165.out 0; have hfz10_1 := blk_frozen BK165.out 1) | ((with_reducible refine gate_callee (f := 33) rfl ?_); refine goesL_ (some 6) rfl rfl Try.func33 (by kernel_rfl) rfl #[.agg #[.int .i64 a0_0, .int .i64 a0_1]] rfl (by (try simp only [mp]); first | done | rfl | (simp only [ld]; rfl)) ?_; (with_reducible refine (ratio_Is.calls k a0_0 a0_1 true _ A2.out).mono ?_); rintro e w11 ⟨rfl, hb⟩; refine ⟨_, rfl, ?_⟩; replace BK165 := kb BK165 hb; replace BK166 := kb BK166 hb; replace HB := hs' HB (by repeat first | (with_reducible exact HB.out) | refine bl1 ?_ | (with_reducible refine bset ?_ ‹_›) | exact HB.out) hb; (try clear hb); (try clear hb2); (try clear hk); (try clear hi); have hcz12_0 : w11.cell? ⟨gb165, 0, none⟩ = some (.int .i64 a0_0) := (blk_cell BK165.out 0).trans rfl; have hcz12_1 : w11.cell? ⟨gb165, 1, none⟩ = some (.int .i64 a0_1) := (blk_cell BK165.out 1).trans rfl; have hfz12_0 := blk_frozen BK165.out 0; have hfz12_1 := blk_frozen BK165.out 1) | ((with_reducible refine gate_callee (f := 64) rfl ?_); refine goesL_ (some 13) rfl rfl Try.func64 (by kernel_rfl) rfl #[.int .i64 a0_0, .int .i64 a0_1] rfl (by (try simp only [mp]); first | done | rfl | (simp only [ld]; rfl)) ?_; (with_reducible refine (ratio_floor.calls a0_0 a0_1 t168 _ A4.out).mono ?_); rintro e w' ⟨rfl, ⟨nd, rfl⟩⟩; refine ⟨_, rfl, ?_⟩; skip) | ((with_reducible refine gate_callee (f := 20) rfl ?_); refine goesL_ (some 40) rfl rfl Try.func20 (by kernel_rfl) rfl #[.int .i64 (wrap64 (t168 + 1)), .int .i64 1] rfl (by (try simp only [mp]); first | done | rfl | (simp only [ld]; rfl)) ?_; (with_reducible refine (ratio_Make.calls k (wrap64 (t168 + 1)) 1 t169 t170 _ A6.out).mono ?_); rintro e w13 ⟨rfl, hb⟩; refine ⟨_, rfl, ?_⟩; replace BK165 := kb BK165 hb; replace BK166 := kb BK166 hb; replace HB := hs' HB (by repeat first | (with_reducible exact HB.out) | refine bl1 ?_ | (with_reducible refine bset ?_ ‹_›) | exact HB.out) hb; (try clear hb); (try clear hb2); (try clear hk); (try clear hi); have hcz14_0 : w13.cell? ⟨gb166, 0, none⟩ = some (.int .i64 0) := (blk_cell BK166.out 0).trans rfl; have hcz14_1 : w13.cell? ⟨gb166, 1, none⟩ = some (.int .i64 0) := (blk_cell BK166.out 1).trans rfl; have hfz14_0 := blk_frozen BK166.out 0; have hfz14_1 := blk_frozen BK166.out 1))
   refine bodyPost_ret (results_cell_row rfl _ _ gb166 24 #[.int .i64 t169, .int .i64 t170] (0, 0) _ rfl (by refine bk ?_; refine blk_put (cs := #[.int .i64 t169, .int .i64 0]) ?_ 1 _ rfl; refine bk ?_; refine blk_put (cs := #[.int .i64 0, .int .i64 0]) ?_ 0 _ rfl; refine bk ?_; exact BK166.out) Try.underlying24 rfl (by kernel_rfl)) rfl ?_
   exact ⟨by first | rfl | (simp [errW_none, errW_some] <;> rfl) | (simp [*, errW_none, errW_some] <;> rfl), by repeat first | exact HB.out | refine bset ?_ ‹_› | apply below_alloc | apply pw_below_drewN | apply below_drew1⟩
  ·
   rw [if_neg c5] at H
   have c5b0 : decide (a0_1 < (wrap64 (2 * (wrap64 (a0_0 - (wrap64 (t168 * a0_1))))))) = false := decide_eq_false c5
   clear c5
   by_cases c15 : (wrap64 (2 * (wrap64 (a0_0 - (wrap64 (t168 * a0_1)))))) = a0_1
   ·
    rw [if_pos c15] at H
    have c15b0 : ((wrap64 (2 * (wrap64 (a0_0 - (wrap64 (t168 * a0_1)))))) == a0_1) = true := beq_iff_eq.mpr c15
    have c15b1 : ((wrap64 (2 * (wrap64 (a0_0 - (wrap64 (t168 * a0_1)))))) != a0_1) = false := bne_eq_false_iff_eq.mpr c15
    clear c15
    by_cases c16 : (Int.tmod t168 2) = 0
    ·
     rw [if_pos c16] at H
     have c16b0 : ((Int.tmod t168 2) == 0) = true := beq_iff_eq.mpr c16
     have c16b1 : ((Int.tmod t168 2) != 0) = false := bne_eq_false_iff_eq.mpr c16
     clear c16
     replace H := Option.bind_eq_some_iff.mp H
     obtain ⟨⟨t171, t172⟩, A170, H⟩ := H
     (try dsimp only at H)
     have A17 := Aside0.mk A170
     clear A170
     simp only [Option.some.injEq, Prod.mk.injEq] at H
     obtain ⟨rfl, rfl⟩ := H
     go_enter Try.func29, Try.ntmps29
     go_wp2_with (first | ((with_reducible refine gate_dst (N := 1) rfl ?_); refine box_event ?hg (N := 1) ?hd (cs := #[.int .i64 a0_0, .int .i64 a0_1]) (t := 24) ?hr ?_; (case hd => rfl); (case hg => rfl); (case hr => first | (go_simp; done) | (go_simp; rfl)); intro gb165 hg w18 hbox hb; have BK165 := Aside0.mk (hbox); have GW165 := hz_ hg HB; have GE165 := hz_ hg HB; replace HB := hs HB hb; clear hb hbox hg) | ((with_reducible refine gate_dst (N := 2) rfl ?_); refine box_event ?hg (N := 2) ?hd (cs := #[.int .i64 0, .int .i64 0]) (t := 24) ?hr ?_; (case hd => rfl); (case hg => rfl); (case hr => first | (go_simp; done) | (go_simp; rfl)); intro gb166 hg w19 hbox hb; have BK166 := Aside0.mk (hbox); have GW166 := bz' HB hg (by repeat first | (with_reducible exact HB.out) | refine bl1 ?_ | (with_reducible refine bset ?_ ‹_›) | exact HB.out); have GE166 := bz' HB hg (by repeat first | (with_reducible exact HB.out) | refine bl1 ?_ | (with_reducible refine bset ?_ ‹_›) | exact HB.out); have NB165_166 := nlk hg BK165; have NB166_165 := ngk hg BK165; replace BK165 := kb BK165 hb; replace HB := hs' HB (by repeat first | (with_reducible exact HB.out) | refine bl1 ?_ | (with_reducible refine bset ?_ ‹_›) | exact HB.out) hb; clear hb hbox hg; have hnb20 := NB165_166.out; have hnc20 := NB166_165.out; have hcz21_0 : w19.cell? ⟨gb165, 0, none⟩ = some (.int .i64 a0_0) := (blk_cell BK165.out 0).trans rfl; have hcz21_1 : w19.cell? ⟨gb165, 1, none⟩ = some (.int .i64 a0_1) := (blk_cell BK165.out 1).trans rfl; have hfz21_0 := blk_frozen BK165.out 0; have hfz21_1 := blk_frozen BK165.out 1) | ((with_reducible refine gate_callee (f := 33) rfl ?_); refine goesL_ (some 6) rfl rfl Try.func33 (by kernel_rfl) rfl #[.agg #[.int .i64 a0_0, .int .i64 a0_1]] rfl (by (try simp only [mp]); first | done | rfl | (simp only [ld]; rfl)) ?_; (with_reducible refine (ratio_Is.calls k a0_0 a0_1 true _ A2.out).mono ?_); rintro e w22 ⟨rfl, hb⟩; refine ⟨_, rfl, ?_⟩; replace BK165 := kb BK165 hb; replace BK166 := kb BK166 hb; replace HB := hs' HB (by repeat first | (with_reducible exact HB.out) | refine bl1 ?_ | (with_reducible refine bset ?_ ‹_›) | exact HB.out) hb; (try clear hb); (try clear hb2); (try clear hk); (try clear hi); have hcz23_0 : w22.cell? ⟨gb165, 0, none⟩ = some (.int .i64 a0_0) := (blk_cell BK165.out 0).trans rfl; have hcz23_1 : w22.cell? ⟨gb165, 1, none⟩ = some (.int .i64 a0_1) := (blk_cell BK165.out 1).trans rfl; have hfz23_0 := blk_frozen BK165.out 0; have hfz23_1 := blk_frozen BK165.out 1) | ((with_reducible refine gate_callee (f := 64) rfl ?_); refine goesL_ (some 13) rfl rfl Try.func64 (by kernel_rfl) rfl #[.int .i64 a0_0, .int .i64 a0_1] rfl (by (try simp only [mp]); first | done | rfl | (simp only [ld]; rfl)) ?_; (with_reducible refine (ratio_floor.calls a0_0 a0_1 t168 _ A4.out).mono ?_); rintro e w' ⟨rfl, ⟨nd, rfl⟩⟩; refine ⟨_, rfl, ?_⟩; skip) | ((with_reducible refine gate_callee (f := 20) rfl ?_); refine goesL_ (some 40) rfl rfl Try.func20 (by kernel_rfl) rfl #[.int .i64 t168, .int .i64 1] rfl (by (try simp only [mp]); first | done | rfl | (simp only [ld]; rfl)) ?_; (with_reducible refine (ratio_Make.calls k t168 1 t171 t172 _ A17.out).mono ?_); rintro e w24 ⟨rfl, hb⟩; refine ⟨_, rfl, ?_⟩; replace BK165 := kb BK165 hb; replace BK166 := kb BK166 hb; replace HB := hs' HB (by repeat first | (with_reducible exact HB.out) | refine bl1 ?_ | (with_reducible refine bset ?_ ‹_›) | exact HB.out) hb; (try clear hb); (try clear hb2); (try clear hk); (try clear hi); have hcz25_0 : w24.cell? ⟨gb166, 0, none⟩ = some (.int .i64 0) := (blk_cell BK166.out 0).trans rfl; have hcz25_1 : w24.cell? ⟨gb166, 1, none⟩ = some (.int .i64 0) := (blk_cell BK166.out 1).trans rfl; have hfz25_0 := blk_frozen BK166.out 0; have hfz25_1 := blk_frozen BK166.out 1))
     refine bodyPost_ret (results_cell_row rfl _ _ gb166 24 #[.int .i64 t171, .int .i64 t172] (0, 0) _ rfl (by refine bk ?_; refine blk_put (cs := #[.int .i64 t171, .int .i64 0]) ?_ 1 _ rfl; refine bk ?_; refine blk_put (cs := #[.int .i64 0, .int .i64 0]) ?_ 0 _ rfl; refine bk ?_; exact BK166.out) Try.underlying24 rfl (by kernel_rfl)) rfl ?_
     exact ⟨by first | rfl | (simp [errW_none, errW_some] <;> rfl) | (simp [*, errW_none, errW_some] <;> rfl), by repeat first | exact HB.out | refine bset ?_ ‹_› | apply below_alloc | apply pw_below_drewN | apply below_drew1⟩
    ·
     rw [if_neg c16] at H
     have c16b0 : ((Int.tmod t168 2) == 0) = false := beq_eq_false_iff_ne.mpr c16
     have c16b1 : ((Int.tmod t168 2) != 0) = true := bne_iff_ne.mpr c16
     replace H := Option.bind_eq_some_iff.mp H
     obtain ⟨⟨t173, t174⟩, A260, H⟩ := H
     (try dsimp only at H)
     have A26 := Aside0.mk A260
     clear A260
     simp only [Option.some.injEq, Prod.mk.injEq] at H
     obtain ⟨rfl, rfl⟩ := H
     go_enter Try.func29, Try.ntmps29
     go_wp2_with (first | ((with_reducible refine gate_dst (N := 1) rfl ?_); refine box_event ?hg (N := 1) ?hd (cs := #[.int .i64 a0_0, .int .i64 a0_1]) (t := 24) ?hr ?_; (case hd => rfl); (case hg => rfl); (case hr => first | (go_simp; done) | (go_simp; rfl)); intro gb165 hg w27 hbox hb; have BK165 := Aside0.mk (hbox); have GW165 := hz_ hg HB; have GE165 := hz_ hg HB; replace HB := hs HB hb; clear hb hbox hg) | ((with_reducible refine gate_dst (N := 2) rfl ?_); refine box_event ?hg (N := 2) ?hd (cs := #[.int .i64 0, .int .i64 0]) (t := 24) ?hr ?_; (case hd => rfl); (case hg => rfl); (case hr => first | (go_simp; done) | (go_simp; rfl)); intro gb166 hg w28 hbox hb; have BK166 := Aside0.mk (hbox); have GW166 := bz' HB hg (by repeat first | (with_reducible exact HB.out) | refine bl1 ?_ | (with_reducible refine bset ?_ ‹_›) | exact HB.out); have GE166 := bz' HB hg (by repeat first | (with_reducible exact HB.out) | refine bl1 ?_ | (with_reducible refine bset ?_ ‹_›) | exact HB.out); have NB165_166 := nlk hg BK165; have NB166_165 := ngk hg BK165; replace BK165 := kb BK165 hb; replace HB := hs' HB (by repeat first | (with_reducible exact HB.out) | refine bl1 ?_ | (with_reducible refine bset ?_ ‹_›) | exact HB.out) hb; clear hb hbox hg; have hnb29 := NB165_166.out; have hnc29 := NB166_165.out; have hcz30_0 : w28.cell? ⟨gb165, 0, none⟩ = some (.int .i64 a0_0) := (blk_cell BK165.out 0).trans rfl; have hcz30_1 : w28.cell? ⟨gb165, 1, none⟩ = some (.int .i64 a0_1) := (blk_cell BK165.out 1).trans rfl; have hfz30_0 := blk_frozen BK165.out 0; have hfz30_1 := blk_frozen BK165.out 1) | ((with_reducible refine gate_callee (f := 33) rfl ?_); refine goesL_ (some 6) rfl rfl Try.func33 (by kernel_rfl) rfl #[.agg #[.int .i64 a0_0, .int .i64 a0_1]] rfl (by (try simp only [mp]); first | done | rfl | (simp only [ld]; rfl)) ?_; (with_reducible refine (ratio_Is.calls k a0_0 a0_1 true _ A2.out).mono ?_); rintro e w31 ⟨rfl, hb⟩; refine ⟨_, rfl, ?_⟩; replace BK165 := kb BK165 hb; replace BK166 := kb BK166 hb; replace HB := hs' HB (by repeat first | (with_reducible exact HB.out) | refine bl1 ?_ | (with_reducible refine bset ?_ ‹_›) | exact HB.out) hb; (try clear hb); (try clear hb2); (try clear hk); (try clear hi); have hcz32_0 : w31.cell? ⟨gb165, 0, none⟩ = some (.int .i64 a0_0) := (blk_cell BK165.out 0).trans rfl; have hcz32_1 : w31.cell? ⟨gb165, 1, none⟩ = some (.int .i64 a0_1) := (blk_cell BK165.out 1).trans rfl; have hfz32_0 := blk_frozen BK165.out 0; have hfz32_1 := blk_frozen BK165.out 1) | ((with_reducible refine gate_callee (f := 64) rfl ?_); refine goesL_ (some 13) rfl rfl Try.func64 (by kernel_rfl) rfl #[.int .i64 a0_0, .int .i64 a0_1] rfl (by (try simp only [mp]); first | done | rfl | (simp only [ld]; rfl)) ?_; (with_reducible refine (ratio_floor.calls a0_0 a0_1 t168 _ A4.out).mono ?_); rintro e w' ⟨rfl, ⟨nd, rfl⟩⟩; refine ⟨_, rfl, ?_⟩; skip) | ((with_reducible refine gate_callee (f := 20) rfl ?_); refine goesL_ (some 40) rfl rfl Try.func20 (by kernel_rfl) rfl #[.int .i64 (wrap64 (t168 + 1)), .int .i64 1] rfl (by (try simp only [mp]); first | done | rfl | (simp only [ld]; rfl)) ?_; (with_reducible refine (ratio_Make.calls k (wrap64 (t168 + 1)) 1 t173 t174 _ A26.out).mono ?_); rintro e w33 ⟨rfl, hb⟩; refine ⟨_, rfl, ?_⟩; replace BK165 := kb BK165 hb; replace BK166 := kb BK166 hb; replace HB := hs' HB (by repeat first | (with_reducible exact HB.out) | refine bl1 ?_ | (with_reducible refine bset ?_ ‹_›) | exact HB.out) hb; (try clear hb); (try clear hb2); (try clear hk); (try clear hi); have hcz34_0 : w33.cell? ⟨gb166, 0, none⟩ = some (.int .i64 0) := (blk_cell BK166.out 0).trans rfl; have hcz34_1 : w33.cell? ⟨gb166, 1, none⟩ = some (.int .i64 0) := (blk_cell BK166.out 1).trans rfl; have hfz34_0 := blk_frozen BK166.out 0; have hfz34_1 := blk_frozen BK166.out 1))
     refine bodyPost_ret (results_cell_row rfl _ _ gb166 24 #[.int .i64 t173, .int .i64 t174] (0, 0) _ rfl (by refine bk ?_; refine blk_put (cs := #[.int .i64 t173, .int .i64 0]) ?_ 1 _ rfl; refine bk ?_; refine blk_put (cs := #[.int .i64 0, .int .i64 0]) ?_ 0 _ rfl; refine bk ?_; exact BK166.out) Try.underlying24 rfl (by kernel_rfl)) rfl ?_
     exact ⟨by first | rfl | (simp [errW_none, errW_some] <;> rfl) | (simp [*, errW_none, errW_some] <;> rfl), by repeat first | exact HB.out | refine bset ?_ ‹_› | apply below_alloc | apply pw_below_drewN | apply below_drew1⟩
   ·
    rw [if_neg c15] at H
    have c15b0 : ((wrap64 (2 * (wrap64 (a0_0 - (wrap64 (t168 * a0_1)))))) == a0_1) = false := beq_eq_false_iff_ne.mpr c15
    have c15b1 : ((wrap64 (2 * (wrap64 (a0_0 - (wrap64 (t168 * a0_1)))))) != a0_1) = true := bne_iff_ne.mpr c15
    replace H := Option.bind_eq_some_iff.mp H
    obtain ⟨⟨t175, t176⟩, A350, H⟩ := H
    (try dsimp only at H)
    have A35 := Aside0.mk A350
    clear A350
    simp only [Option.some.injEq, Prod.mk.injEq] at H
    obtain ⟨rfl, rfl⟩ := H
    go_enter Try.func29, Try.ntmps29
    go_wp2_with (first | ((with_reducible refine gate_dst (N := 1) rfl ?_); refine box_event ?hg (N := 1) ?hd (cs := #[.int .i64 a0_0, .int .i64 a0_1]) (t := 24) ?hr ?_; (case hd => rfl); (case hg => rfl); (case hr => first | (go_simp; done) | (go_simp; rfl)); intro gb165 hg w36 hbox hb; have BK165 := Aside0.mk (hbox); have GW165 := hz_ hg HB; have GE165 := hz_ hg HB; replace HB := hs HB hb; clear hb hbox hg) | ((with_reducible refine gate_dst (N := 2) rfl ?_); refine box_event ?hg (N := 2) ?hd (cs := #[.int .i64 0, .int .i64 0]) (t := 24) ?hr ?_; (case hd => rfl); (case hg => rfl); (case hr => first | (go_simp; done) | (go_simp; rfl)); intro gb166 hg w37 hbox hb; have BK166 := Aside0.mk (hbox); have GW166 := bz' HB hg (by repeat first | (with_reducible exact HB.out) | refine bl1 ?_ | (with_reducible refine bset ?_ ‹_›) | exact HB.out); have GE166 := bz' HB hg (by repeat first | (with_reducible exact HB.out) | refine bl1 ?_ | (with_reducible refine bset ?_ ‹_›) | exact HB.out); have NB165_166 := nlk hg BK165; have NB166_165 := ngk hg BK165; replace BK165 := kb BK165 hb; replace HB := hs' HB (by repeat first | (with_reducible exact HB.out) | refine bl1 ?_ | (with_reducible refine bset ?_ ‹_›) | exact HB.out) hb; clear hb hbox hg; have hnb38 := NB165_166.out; have hnc38 := NB166_165.out; have hcz39_0 : w37.cell? ⟨gb165, 0, none⟩ = some (.int .i64 a0_0) := (blk_cell BK165.out 0).trans rfl; have hcz39_1 : w37.cell? ⟨gb165, 1, none⟩ = some (.int .i64 a0_1) := (blk_cell BK165.out 1).trans rfl; have hfz39_0 := blk_frozen BK165.out 0; have hfz39_1 := blk_frozen BK165.out 1) | ((with_reducible refine gate_callee (f := 33) rfl ?_); refine goesL_ (some 6) rfl rfl Try.func33 (by kernel_rfl) rfl #[.agg #[.int .i64 a0_0, .int .i64 a0_1]] rfl (by (try simp only [mp]); first | done | rfl | (simp only [ld]; rfl)) ?_; (with_reducible refine (ratio_Is.calls k a0_0 a0_1 true _ A2.out).mono ?_); rintro e w40 ⟨rfl, hb⟩; refine ⟨_, rfl, ?_⟩; replace BK165 := kb BK165 hb; replace BK166 := kb BK166 hb; replace HB := hs' HB (by repeat first | (with_reducible exact HB.out) | refine bl1 ?_ | (with_reducible refine bset ?_ ‹_›) | exact HB.out) hb; (try clear hb); (try clear hb2); (try clear hk); (try clear hi); have hcz41_0 : w40.cell? ⟨gb165, 0, none⟩ = some (.int .i64 a0_0) := (blk_cell BK165.out 0).trans rfl; have hcz41_1 : w40.cell? ⟨gb165, 1, none⟩ = some (.int .i64 a0_1) := (blk_cell BK165.out 1).trans rfl; have hfz41_0 := blk_frozen BK165.out 0; have hfz41_1 := blk_frozen BK165.out 1) | ((with_reducible refine gate_callee (f := 64) rfl ?_); refine goesL_ (some 13) rfl rfl Try.func64 (by kernel_rfl) rfl #[.int .i64 a0_0, .int .i64 a0_1] rfl (by (try simp only [mp]); first | done | rfl | (simp only [ld]; rfl)) ?_; (with_reducible refine (ratio_floor.calls a0_0 a0_1 t168 _ A4.out).mono ?_); rintro e w' ⟨rfl, ⟨nd, rfl⟩⟩; refine ⟨_, rfl, ?_⟩; skip) | ((with_reducible refine gate_callee (f := 20) rfl ?_); refine goesL_ (some 40) rfl rfl Try.func20 (by kernel_rfl) rfl #[.int .i64 t168, .int .i64 1] rfl (by (try simp only [mp]); first | done | rfl | (simp only [ld]; rfl)) ?_; (with_reducible refine (ratio_Make.calls k t168 1 t175 t176 _ A35.out).mono ?_); rintro e w42 ⟨rfl, hb⟩; refine ⟨_, rfl, ?_⟩; replace BK165 := kb BK165 hb; replace BK166 := kb BK166 hb; replace HB := hs' HB (by repeat first | (with_reducible exact HB.out) | refine bl1 ?_ | (with_reducible refine bset ?_ ‹_›) | exact HB.out) hb; (try clear hb); (try clear hb2); (try clear hk); (try clear hi); have hcz43_0 : w42.cell? ⟨gb166, 0, none⟩ = some (.int .i64 0) := (blk_cell BK166.out 0).trans rfl; have hcz43_1 : w42.cell? ⟨gb166, 1, none⟩ = some (.int .i64 0) := (blk_cell BK166.out 1).trans rfl; have hfz43_0 := blk_frozen BK166.out 0; have hfz43_1 := blk_frozen BK166.out 1))
    refine bodyPost_ret (results_cell_row rfl _ _ gb166 24 #[.int .i64 t175, .int .i64 t176] (0, 0) _ rfl (by refine bk ?_; refine blk_put (cs := #[.int .i64 t175, .int .i64 0]) ?_ 1 _ rfl; refine bk ?_; refine blk_put (cs := #[.int .i64 0, .int .i64 0]) ?_ 0 _ rfl; refine bk ?_; exact BK166.out) Try.underlying24 rfl (by kernel_rfl)) rfl ?_
    exact ⟨by first | rfl | (simp [errW_none, errW_some] <;> rfl) | (simp [*, errW_none, errW_some] <;> rfl), by repeat first | exact HB.out | refine bset ?_ ‹_› | apply below_alloc | apply pw_below_drewN | apply below_drew1⟩
 ·
  replace c3 := Bool.eq_false_iff.mpr c3
  subst c3
  rw [if_neg (show ¬ (false = true) by decide)] at H
  simp only [Option.some.injEq, Prod.mk.injEq] at H
  obtain ⟨rfl, rfl⟩ := H
  go_enter Try.func29, Try.ntmps29
  go_wp2_with (first | ((with_reducible refine gate_dst (N := 1) rfl ?_); refine box_event ?hg (N := 1) ?hd (cs := #[.int .i64 a0_0, .int .i64 a0_1]) (t := 24) ?hr ?_; (case hd => rfl); (case hg => rfl); (case hr => first | (go_simp; done) | (go_simp; rfl)); intro gb165 hg w44 hbox hb; have BK165 := Aside0.mk (hbox); have GW165 := hz_ hg HB; have GE165 := hz_ hg HB; replace HB := hs HB hb; clear hb hbox hg) | ((with_reducible refine gate_dst (N := 2) rfl ?_); refine box_event ?hg (N := 2) ?hd (cs := #[.int .i64 0, .int .i64 0]) (t := 24) ?hr ?_; (case hd => rfl); (case hg => rfl); (case hr => first | (go_simp; done) | (go_simp; rfl)); intro gb166 hg w45 hbox hb; have BK166 := Aside0.mk (hbox); have GW166 := bz' HB hg (by repeat first | (with_reducible exact HB.out) | refine bl1 ?_ | (with_reducible refine bset ?_ ‹_›) | exact HB.out); have GE166 := bz' HB hg (by repeat first | (with_reducible exact HB.out) | refine bl1 ?_ | (with_reducible refine bset ?_ ‹_›) | exact HB.out); have NB165_166 := nlk hg BK165; have NB166_165 := ngk hg BK165; replace BK165 := kb BK165 hb; replace HB := hs' HB (by repeat first | (with_reducible exact HB.out) | refine bl1 ?_ | (with_reducible refine bset ?_ ‹_›) | exact HB.out) hb; clear hb hbox hg; have hnb46 := NB165_166.out; have hnc46 := NB166_165.out; have hcz47_0 : w45.cell? ⟨gb165, 0, none⟩ = some (.int .i64 a0_0) := (blk_cell BK165.out 0).trans rfl; have hcz47_1 : w45.cell? ⟨gb165, 1, none⟩ = some (.int .i64 a0_1) := (blk_cell BK165.out 1).trans rfl; have hfz47_0 := blk_frozen BK165.out 0; have hfz47_1 := blk_frozen BK165.out 1) | ((with_reducible refine gate_callee (f := 33) rfl ?_); refine goesL_ (some 6) rfl rfl Try.func33 (by kernel_rfl) rfl #[.agg #[.int .i64 a0_0, .int .i64 a0_1]] rfl (by (try simp only [mp]); first | done | rfl | (simp only [ld]; rfl)) ?_; (with_reducible refine (ratio_Is.calls k a0_0 a0_1 false _ A2.out).mono ?_); rintro e w48 ⟨rfl, hb⟩; refine ⟨_, rfl, ?_⟩; replace BK165 := kb BK165 hb; replace BK166 := kb BK166 hb; replace HB := hs' HB (by repeat first | (with_reducible exact HB.out) | refine bl1 ?_ | (with_reducible refine bset ?_ ‹_›) | exact HB.out) hb; (try clear hb); (try clear hb2); (try clear hk); (try clear hi); have hcz49_0 : w48.cell? ⟨gb166, 0, none⟩ = some (.int .i64 0) := (blk_cell BK166.out 0).trans rfl; have hcz49_1 : w48.cell? ⟨gb166, 1, none⟩ = some (.int .i64 0) := (blk_cell BK166.out 1).trans rfl; have hfz49_0 := blk_frozen BK166.out 0; have hfz49_1 := blk_frozen BK166.out 1))
  refine bodyPost_ret (results_cell_row rfl _ _ gb166 24 #[.int .i64 0, .int .i64 0] (0, 0) _ rfl (by refine bk ?_; refine blk_put (cs := #[.int .i64 0, .int .i64 0]) ?_ 1 _ rfl; refine bk ?_; refine blk_put (cs := #[.int .i64 0, .int .i64 0]) ?_ 0 _ rfl; refine bk ?_; exact BK166.out) Try.underlying24 rfl (by kernel_rfl)) rfl ?_
  exact ⟨by first | rfl | (simp [errW_none, errW_some] <;> rfl) | (simp [*, errW_none, errW_some] <;> rfl), by repeat first | exact HB.out | refine bset ?_ ‹_› | apply below_alloc | apply pw_below_drewN | apply below_drew1⟩

/-! ### ratio_Neg: function 43 -/
def ratio_Neg.f (k : Nat) (a0_0 : Int) (a0_1 : Int) : Option (Int × Int) := (ratio_Is.f k a0_0 a0_1).bind fun t179 => (if t179 = true then (some (wrap64 (-a0_0), a0_1)) else (some (0, 0)))
theorem ratio_Neg.mono : ∀ a0 a1 k, LeO (ratio_Neg.f k a0 a1) (ratio_Neg.f (k + 1) a0 a1) := by
 intro a0 a1 k
 unfold ratio_Neg.f
 repeat' first
   | (with_reducible exact ratio_Is.mono _ _ _)
   | (with_reducible exact LeO.refl _)
   | (with_reducible exact LeO.none _)
   | (with_reducible refine LeO.ite ?_ ?_)
   | (with_reducible refine LeO.bind ?_ (fun _ => ?_))
   | exact ratio_Is.mono _ _ _
   | exact LeO.none _
   | refine LeO.ite ?_ ?_
   | refine LeO.bind ?_ (fun _ => ?_)
set_option maxHeartbeats 8000000 in
set_option maxRecDepth 100000 in
theorem ratio_Neg.calls (k : Nat) (a0_0 : Int) (a0_1 : Int) (r1 : Int) (r2 : Int) (w : World) (h : ratio_Neg.f k a0_0 a0_1 = some (r1, r2)) :
  Calls Try.prog 43 #[.agg #[.int .i64 a0_0, .int .i64 a0_1]] w fun e w' => e = .returned (.agg #[.int .i64 r1, .int .i64 r2]) ∧ Below w.heap.size w w' := by
 have hu24 := Try.underlying24
 have HB := Aside0.mk (Below.refl w.heap.size w)
 have H : ((ratio_Is.f k a0_0 a0_1).bind fun t179 => (if t179 = true then (some (wrap64 (-a0_0), a0_1)) else (some (0, 0)))) = some (r1, r2) := h
 clear h
 replace H := Option.bind_eq_some_iff.mp H
 obtain ⟨t179, A20, H⟩ := H
 (try dsimp only at H)
 have A2 := Aside0.mk A20
 clear A20
 by_cases c3 : t179 = true
 ·
  subst c3
  rw [if_pos rfl] at H
  simp only [Option.some.injEq, Prod.mk.injEq] at H
  obtain ⟨rfl, rfl⟩ := H
  go_enter Try.func43, Try.ntmps43
  go_wp2_with (first | ((with_reducible refine gate_dst (N := 1) rfl ?_); refine box_event ?hg (N := 1) ?hd (cs := #[.int .i64 a0_0, .int .i64 a0_1]) (t := 24) ?hr ?_; (case hd => rfl); (case hg => rfl); (case hr => first | (go_simp; done) | (go_simp; rfl)); intro gb177 hg w4 hbox hb; have BK177 := Aside0.mk (hbox); have GW177 := hz_ hg HB; have GE177 := hz_ hg HB; replace HB := hs HB hb; clear hb hbox hg) | ((with_reducible refine gate_dst (N := 2) rfl ?_); refine box_event ?hg (N := 2) ?hd (cs := #[.int .i64 0, .int .i64 0]) (t := 24) ?hr ?_; (case hd => rfl); (case hg => rfl); (case hr => first | (go_simp; done) | (go_simp; rfl)); intro gb178 hg w5 hbox hb; have BK178 := Aside0.mk (hbox); have GW178 := bz' HB hg (by repeat first | (with_reducible exact HB.out) | refine bl1 ?_ | (with_reducible refine bset ?_ ‹_›) | exact HB.out); have GE178 := bz' HB hg (by repeat first | (with_reducible exact HB.out) | refine bl1 ?_ | (with_reducible refine bset ?_ ‹_›) | exact HB.out); have NB177_178 := nlk hg BK177; have NB178_177 := ngk hg BK177; replace BK177 := kb BK177 hb; replace HB := hs' HB (by repeat first | (with_reducible exact HB.out) | refine bl1 ?_ | (with_reducible refine bset ?_ ‹_›) | exact HB.out) hb; clear hb hbox hg; have hnb6 := NB177_178.out; have hnc6 := NB178_177.out; have hcz7_0 : w5.cell? ⟨gb177, 0, none⟩ = some (.int .i64 a0_0) := (blk_cell BK177.out 0).trans rfl; have hcz7_1 : w5.cell? ⟨gb177, 1, none⟩ = some (.int .i64 a0_1) := (blk_cell BK177.out 1).trans rfl; have hfz7_0 := blk_frozen BK177.out 0; have hfz7_1 := blk_frozen BK177.out 1) | ((with_reducible refine gate_callee (f := 33) rfl ?_); refine goesL_ (some 4) rfl rfl Try.func33 (by kernel_rfl) rfl #[.agg #[.int .i64 a0_0, .int .i64 a0_1]] rfl (by (try simp only [mp]); first | done | rfl | (simp only [ld]; rfl)) ?_; (with_reducible refine (ratio_Is.calls k a0_0 a0_1 true _ A2.out).mono ?_); rintro e w8 ⟨rfl, hb⟩; refine ⟨_, rfl, ?_⟩; replace BK177 := kb BK177 hb; replace BK178 := kb BK178 hb; replace HB := hs' HB (by repeat first | (with_reducible exact HB.out) | refine bl1 ?_ | (with_reducible refine bset ?_ ‹_›) | exact HB.out) hb; (try clear hb); (try clear hb2); (try clear hk); (try clear hi); have hcz9_0 : w8.cell? ⟨gb177, 0, none⟩ = some (.int .i64 a0_0) := (blk_cell BK177.out 0).trans rfl; have hcz9_1 : w8.cell? ⟨gb177, 1, none⟩ = some (.int .i64 a0_1) := (blk_cell BK177.out 1).trans rfl; have hfz9_0 := blk_frozen BK177.out 0; have hfz9_1 := blk_frozen BK177.out 1; have hcz10_0 : w8.cell? ⟨gb178, 0, none⟩ = some (.int .i64 0) := (blk_cell BK178.out 0).trans rfl; have hcz10_1 : w8.cell? ⟨gb178, 1, none⟩ = some (.int .i64 0) := (blk_cell BK178.out 1).trans rfl; have hfz10_0 := blk_frozen BK178.out 0; have hfz10_1 := blk_frozen BK178.out 1))
  refine bodyPost_ret (results_cell_row rfl _ _ gb178 24 #[.int .i64 (wrap64 (-a0_0)), .int .i64 a0_1] (0, 0) _ rfl (by refine bk ?_; refine blk_put (cs := #[.int .i64 (wrap64 (-a0_0)), .int .i64 0]) ?_ 1 _ rfl; refine bk ?_; refine blk_put (cs := #[.int .i64 0, .int .i64 0]) ?_ 0 _ rfl; refine bk ?_; exact BK178.out) Try.underlying24 rfl (by kernel_rfl)) rfl ?_
  exact ⟨by first | rfl | (simp [errW_none, errW_some] <;> rfl) | (simp [*, errW_none, errW_some] <;> rfl), by repeat first | exact HB.out | refine bset ?_ ‹_› | apply below_alloc | apply pw_below_drewN | apply below_drew1⟩
 ·
  replace c3 := Bool.eq_false_iff.mpr c3
  subst c3
  rw [if_neg (show ¬ (false = true) by decide)] at H
  simp only [Option.some.injEq, Prod.mk.injEq] at H
  obtain ⟨rfl, rfl⟩ := H
  go_enter Try.func43, Try.ntmps43
  go_wp2_with (first | ((with_reducible refine gate_dst (N := 1) rfl ?_); refine box_event ?hg (N := 1) ?hd (cs := #[.int .i64 a0_0, .int .i64 a0_1]) (t := 24) ?hr ?_; (case hd => rfl); (case hg => rfl); (case hr => first | (go_simp; done) | (go_simp; rfl)); intro gb177 hg w11 hbox hb; have BK177 := Aside0.mk (hbox); have GW177 := hz_ hg HB; have GE177 := hz_ hg HB; replace HB := hs HB hb; clear hb hbox hg) | ((with_reducible refine gate_dst (N := 2) rfl ?_); refine box_event ?hg (N := 2) ?hd (cs := #[.int .i64 0, .int .i64 0]) (t := 24) ?hr ?_; (case hd => rfl); (case hg => rfl); (case hr => first | (go_simp; done) | (go_simp; rfl)); intro gb178 hg w12 hbox hb; have BK178 := Aside0.mk (hbox); have GW178 := bz' HB hg (by repeat first | (with_reducible exact HB.out) | refine bl1 ?_ | (with_reducible refine bset ?_ ‹_›) | exact HB.out); have GE178 := bz' HB hg (by repeat first | (with_reducible exact HB.out) | refine bl1 ?_ | (with_reducible refine bset ?_ ‹_›) | exact HB.out); have NB177_178 := nlk hg BK177; have NB178_177 := ngk hg BK177; replace BK177 := kb BK177 hb; replace HB := hs' HB (by repeat first | (with_reducible exact HB.out) | refine bl1 ?_ | (with_reducible refine bset ?_ ‹_›) | exact HB.out) hb; clear hb hbox hg; have hnb13 := NB177_178.out; have hnc13 := NB178_177.out; have hcz14_0 : w12.cell? ⟨gb177, 0, none⟩ = some (.int .i64 a0_0) := (blk_cell BK177.out 0).trans rfl; have hcz14_1 : w12.cell? ⟨gb177, 1, none⟩ = some (.int .i64 a0_1) := (blk_cell BK177.out 1).trans rfl; have hfz14_0 := blk_frozen BK177.out 0; have hfz14_1 := blk_frozen BK177.out 1) | ((with_reducible refine gate_callee (f := 33) rfl ?_); refine goesL_ (some 4) rfl rfl Try.func33 (by kernel_rfl) rfl #[.agg #[.int .i64 a0_0, .int .i64 a0_1]] rfl (by (try simp only [mp]); first | done | rfl | (simp only [ld]; rfl)) ?_; (with_reducible refine (ratio_Is.calls k a0_0 a0_1 false _ A2.out).mono ?_); rintro e w15 ⟨rfl, hb⟩; refine ⟨_, rfl, ?_⟩; replace BK177 := kb BK177 hb; replace BK178 := kb BK178 hb; replace HB := hs' HB (by repeat first | (with_reducible exact HB.out) | refine bl1 ?_ | (with_reducible refine bset ?_ ‹_›) | exact HB.out) hb; (try clear hb); (try clear hb2); (try clear hk); (try clear hi); have hcz16_0 : w15.cell? ⟨gb178, 0, none⟩ = some (.int .i64 0) := (blk_cell BK178.out 0).trans rfl; have hcz16_1 : w15.cell? ⟨gb178, 1, none⟩ = some (.int .i64 0) := (blk_cell BK178.out 1).trans rfl; have hfz16_0 := blk_frozen BK178.out 0; have hfz16_1 := blk_frozen BK178.out 1))
  refine bodyPost_ret (results_cell_row rfl _ _ gb178 24 #[.int .i64 0, .int .i64 0] (0, 0) _ rfl (by refine bk ?_; refine blk_put (cs := #[.int .i64 0, .int .i64 0]) ?_ 1 _ rfl; refine bk ?_; refine blk_put (cs := #[.int .i64 0, .int .i64 0]) ?_ 0 _ rfl; refine bk ?_; exact BK178.out) Try.underlying24 rfl (by kernel_rfl)) rfl ?_
  exact ⟨by first | rfl | (simp [errW_none, errW_some] <;> rfl) | (simp [*, errW_none, errW_some] <;> rfl), by repeat first | exact HB.out | refine bset ?_ ‹_› | apply below_alloc | apply pw_below_drewN | apply below_drew1⟩

/-! ### ratio_Sub: function 32 -/
def ratio_Sub.f (k : Nat) (a0_0 : Int) (a0_1 : Int) (a1_0 : Int) (a1_1 : Int) : Option (Int × Int) := (ratio_Neg.f k a1_0 a1_1).bind fun bt183 => ((ratio_Add.f k a0_0 a0_1 bt183.1 bt183.2).bind fun bt185 => (some (bt185.1, bt185.2)))
theorem ratio_Sub.mono : ∀ a0 a1 a2 a3 k, LeO (ratio_Sub.f k a0 a1 a2 a3) (ratio_Sub.f (k + 1) a0 a1 a2 a3) := by
 intro a0 a1 a2 a3 k
 unfold ratio_Sub.f
 repeat' first
   | (with_reducible exact ratio_Add.mono _ _ _ _ _)
   | (with_reducible exact ratio_Neg.mono _ _ _)
   | (with_reducible exact LeO.refl _)
   | (with_reducible exact LeO.none _)
   | (with_reducible refine LeO.ite ?_ ?_)
   | (with_reducible refine LeO.bind ?_ (fun _ => ?_))
   | exact ratio_Add.mono _ _ _ _ _
   | exact ratio_Neg.mono _ _ _
   | exact LeO.none _
   | refine LeO.ite ?_ ?_
   | refine LeO.bind ?_ (fun _ => ?_)
set_option maxHeartbeats 8000000 in
set_option maxRecDepth 100000 in
theorem ratio_Sub.calls (k : Nat) (a0_0 : Int) (a0_1 : Int) (a1_0 : Int) (a1_1 : Int) (r1 : Int) (r2 : Int) (w : World) (h : ratio_Sub.f k a0_0 a0_1 a1_0 a1_1 = some (r1, r2)) :
  Calls Try.prog 32 #[.agg #[.int .i64 a0_0, .int .i64 a0_1], .agg #[.int .i64 a1_0, .int .i64 a1_1]] w fun e w' => e = .returned (.agg #[.int .i64 r1, .int .i64 r2]) ∧ Below w.heap.size w w' := by
 have hu24 := Try.underlying24
 have HB := Aside0.mk (Below.refl w.heap.size w)
 have H : ((ratio_Neg.f k a1_0 a1_1).bind fun bt183 => ((ratio_Add.f k a0_0 a0_1 bt183.1 bt183.2).bind fun bt185 => (some (bt185.1, bt185.2)))) = some (r1, r2) := h
 clear h
 replace H := Option.bind_eq_some_iff.mp H
 obtain ⟨⟨t183, t184⟩, A30, H⟩ := H
 (try dsimp only at H)
 have A3 := Aside0.mk A30
 clear A30
 replace H := Option.bind_eq_some_iff.mp H
 obtain ⟨⟨t185, t186⟩, A40, H⟩ := H
 (try dsimp only at H)
 have A4 := Aside0.mk A40
 clear A40
 simp only [Option.some.injEq, Prod.mk.injEq] at H
 obtain ⟨rfl, rfl⟩ := H
 go_enter Try.func32, Try.ntmps32
 try go_wp2_with (first | ((with_reducible refine gate_dst (N := 2) rfl ?_); refine box_event ?hg (N := 2) ?hd (cs := #[.int .i64 a0_0, .int .i64 a0_1]) (t := 24) ?hr ?_; (case hd => rfl); (case hg => rfl); (case hr => first | (go_simp; done) | (go_simp; rfl)); intro gb180 hg w5 hbox hb; have BK180 := Aside0.mk (hbox); have GW180 := hz_ hg HB; have GE180 := hz_ hg HB; replace HB := hs HB hb; clear hb hbox hg) | ((with_reducible refine gate_dst (N := 3) rfl ?_); refine box_event ?hg (N := 3) ?hd (cs := #[.int .i64 a1_0, .int .i64 a1_1]) (t := 24) ?hr ?_; (case hd => rfl); (case hg => rfl); (case hr => first | (go_simp; done) | (go_simp; rfl)); intro gb181 hg w6 hbox hb; have BK181 := Aside0.mk (hbox); have GW181 := bz' HB hg (by repeat first | (with_reducible exact HB.out) | refine bl1 ?_ | (with_reducible refine bset ?_ ‹_›) | exact HB.out); have GE181 := bz' HB hg (by repeat first | (with_reducible exact HB.out) | refine bl1 ?_ | (with_reducible refine bset ?_ ‹_›) | exact HB.out); have NB180_181 := nlk hg BK180; have NB181_180 := ngk hg BK180; replace BK180 := kb BK180 hb; replace HB := hs' HB (by repeat first | (with_reducible exact HB.out) | refine bl1 ?_ | (with_reducible refine bset ?_ ‹_›) | exact HB.out) hb; clear hb hbox hg) | ((with_reducible refine gate_dst (N := 4) rfl ?_); refine box_event ?hg (N := 4) ?hd (cs := #[.int .i64 0, .int .i64 0]) (t := 24) ?hr ?_; (case hd => rfl); (case hg => rfl); (case hr => first | (go_simp; done) | (go_simp; rfl)); intro gb182 hg w7 hbox hb; have BK182 := Aside0.mk (hbox); have GW182 := bz' HB hg (by repeat first | (with_reducible exact HB.out) | refine bl1 ?_ | (with_reducible refine bset ?_ ‹_›) | exact HB.out); have GE182 := bz' HB hg (by repeat first | (with_reducible exact HB.out) | refine bl1 ?_ | (with_reducible refine bset ?_ ‹_›) | exact HB.out); have NB180_182 := nlk hg BK180; have NB182_180 := ngk hg BK180; have NB181_182 := nlk hg BK181; have NB182_181 := ngk hg BK181; replace BK180 := kb BK180 hb; replace BK181 := kb BK181 hb; replace HB := hs' HB (by repeat first | (with_reducible exact HB.out) | refine bl1 ?_ | (with_reducible refine bset ?_ ‹_›) | exact HB.out) hb; clear hb hbox hg))
 replace BK180 := kd BK180
 replace BK181 := kd BK181
 replace BK182 := kd BK182
 replace HB := Aside0.mk (below_drew1 HB.out)
 refine start_ (n := 5) (S := fun w' => w'.cell? ⟨gb180, 0, none⟩ = some (.int .i64 a0_0) ∧ w'.cell? ⟨gb180, 1, none⟩ = some (.int .i64 a0_1) ∧ w'.cell? ⟨gb181, 0, none⟩ = some (.int .i64 a1_0) ∧ w'.cell? ⟨gb181, 1, none⟩ = some (.int .i64 a1_1)) (ds := []) #[false, false, false, false, false] (by kernel_rfl) rfl rfl ⟨(blk_cell BK180.out 0).trans rfl, (blk_cell BK180.out 1).trans rfl, (blk_cell BK181.out 0).trans rfl, (blk_cell BK181.out 1).trans rfl⟩ (fun hHeld => ?_)
 generalize w7.drew = w8 at BK180 BK181 BK182 HB hHeld ⊢
 refine take_ (i := 0) (N := some 5) (v := ?_) (a' := ?_) #[true, false, false, false, false] rfl rfl (by kernel_rfl) (fun _ _ _ h => h) (Or.inl ⟨by rfl, ?_⟩) hHeld ?_ ?_
 rotate_left
 ·
  rintro w' ⟨s0, s1, s2, s3⟩
  go_simp; with_reducible rfl
 rotate_left
 ·
  simp only [ap]
  rfl
 refine take_ (i := 1) (N := some 6) (v := ?_) (a' := ?_) #[true, true, false, false, false] rfl rfl (by kernel_rfl) (fun _ _ _ h => h) (Or.inl ⟨by rfl, ?_⟩) hHeld ?_ ?_
 rotate_left
 ·
  rintro w' ⟨s0, s1, s2, s3⟩
  go_simp; with_reducible rfl
 rotate_left
 ·
  simp only [ap]
  rfl
 refine one_ (i := 2) (N := some 7) #[true, true, true, false, false] rfl rfl (by kernel_rfl) (by decide) (fun K hK => ?_)
 refine goes_ Try.func43 (by kernel_rfl) rfl #[.agg #[.int .i64 a1_0, .int .i64 a1_1]] (by rfl) rfl rfl (by (try simp only [mp]); first | done | rfl | (simp only [ld]; rfl)) ?_
 with_reducible refine (ratio_Neg.calls k a1_0 a1_1 t183 t184 _ A3.out).mono ?_
 rintro e w9 ⟨rfl, hb⟩
 refine ⟨_, rfl, ?_⟩
 replace BK180 := kb BK180 hb
 replace BK181 := kb BK181 hb
 replace BK182 := kb BK182 hb
 replace HB := hs' HB (by repeat first | (with_reducible exact HB.out) | refine bl1 ?_ | (with_reducible refine bset ?_ ‹_›) | exact HB.out) hb
 (try clear hb); (try clear hb2); (try clear hk); (try clear hi)
 refine hK.out _ _ ⟨(blk_cell BK180.out 0).trans rfl, (blk_cell BK180.out 1).trans rfl, (blk_cell BK181.out 0).trans rfl, (blk_cell BK181.out 1).trans rfl⟩ (fun hHeld => ?_)
 clear hK K
 refine norm_ (a' := ?_) ?_ ?_
 rotate_left
 ·
  show Act.put _ (some 7) _ = _
  simp only [ap]; rfl
 refine one_ (i := 3) (N := some 8) #[true, true, true, true, false] rfl rfl (by kernel_rfl) (by decide) (fun K hK => ?_)
 refine goes_ Try.func12 (by kernel_rfl) rfl #[.agg #[.int .i64 a0_0, .int .i64 a0_1], .agg #[.int .i64 t183, .int .i64 t184]] (by rfl) rfl rfl (by (try simp only [mp]); first | done | rfl | (simp only [ld]; rfl)) ?_
 with_reducible refine (ratio_Add.calls k a0_0 a0_1 t183 t184 t185 t186 _ A4.out).mono ?_
 rintro e w10 ⟨rfl, hb⟩
 refine ⟨_, rfl, ?_⟩
 replace BK180 := kb BK180 hb
 replace BK181 := kb BK181 hb
 replace BK182 := kb BK182 hb
 replace HB := hs' HB (by repeat first | (with_reducible exact HB.out) | refine bl1 ?_ | (with_reducible refine bset ?_ ‹_›) | exact HB.out) hb
 (try clear hb); (try clear hb2); (try clear hk); (try clear hi)
 refine hK.out _ _ ⟨(blk_cell BK180.out 0).trans rfl, (blk_cell BK180.out 1).trans rfl, (blk_cell BK181.out 0).trans rfl, (blk_cell BK181.out 1).trans rfl⟩ (fun hHeld => ?_)
 clear hK K
 refine norm_ (a' := ?_) ?_ ?_
 rotate_left
 ·
  show Act.put _ (some 8) _ = _
  simp only [ap]; rfl
 refine one_ (i := 4) (N := none) #[true, true, true, true, true] rfl rfl (by kernel_rfl) (by decide) (fun K hK => ?_)
 have hs11 : w10.cell? ⟨gb182, 0, none⟩ = some (.int .i64 0) := (blk_cell BK182.out 0).trans rfl
 have hfs11 := blk_frozen BK182.out 0
 have hns11_0 := NB180_182.out
 have hns11_1 := NB181_182.out
 have hms11_0 := NB182_180.out
 have hms11_1 := NB182_181.out
 have hs12 : w10.cell? ⟨gb182, 1, none⟩ = some (.int .i64 0) := (blk_cell BK182.out 1).trans rfl
 have hfs12 := blk_frozen BK182.out 1
 have hns12_0 := NB180_182.out
 have hns12_1 := NB181_182.out
 have hms12_0 := NB182_180.out
 have hms12_1 := NB182_181.out
 refine skip_ (w1 := ?_) (by rfl) rfl ?_ ?_
 rotate_left
 ·
  go_simp
  rfl
 refine hK.out _ _ ⟨((cell_far (p := ⟨gb182, _, none⟩) NB180_182.out _).trans (((cell_far (p := ⟨gb182, _, none⟩) NB180_182.out _).trans (hHeld.1)))), ((cell_far (p := ⟨gb182, _, none⟩) NB180_182.out _).trans (((cell_far (p := ⟨gb182, _, none⟩) NB180_182.out _).trans (hHeld.2.1)))), ((cell_far (p := ⟨gb182, _, none⟩) NB181_182.out _).trans (((cell_far (p := ⟨gb182, _, none⟩) NB181_182.out _).trans (hHeld.2.2.1)))), ((cell_far (p := ⟨gb182, _, none⟩) NB181_182.out _).trans (((cell_far (p := ⟨gb182, _, none⟩) NB181_182.out _).trans (hHeld.2.2.2))))⟩ (fun hHeld => ?_)
 clear hK K
 refine done_ (by kernel_rfl) ?_
 try go_wp2
 refine bodyPost_ret (results_cell_row rfl _ _ gb182 24 #[.int .i64 t185, .int .i64 t186] (0, 0) _ rfl (by refine bk ?_; refine blk_put (cs := #[.int .i64 t185, .int .i64 0]) ?_ 1 _ rfl; refine bk ?_; refine blk_put (cs := #[.int .i64 0, .int .i64 0]) ?_ 0 _ rfl; refine bk ?_; exact BK182.out) Try.underlying24 rfl (by kernel_rfl)) rfl ?_
 exact ⟨by first | rfl | (simp [errW_none, errW_some] <;> rfl) | (simp [*, errW_none, errW_some] <;> rfl), by repeat first | exact HB.out | refine bset ?_ ‹_› | apply below_alloc | apply pw_below_drewN | apply below_drew1⟩

/-! ### ratio_Frac: function 30 -/
def ratio_Frac.f (k : Nat) (a0_0 : Int) (a0_1 : Int) : Option (Int × Int) := (ratio_Floor.f k a0_0 a0_1).bind fun bt189 => ((ratio_Sub.f k a0_0 a0_1 bt189.1 bt189.2).bind fun bt191 => (some (bt191.1, bt191.2)))
theorem ratio_Frac.mono : ∀ a0 a1 k, LeO (ratio_Frac.f k a0 a1) (ratio_Frac.f (k + 1) a0 a1) := by
 intro a0 a1 k
 unfold ratio_Frac.f
 repeat' first
   | (with_reducible exact ratio_Floor.mono _ _ _)
   | (with_reducible exact ratio_Sub.mono _ _ _ _ _)
   | (with_reducible exact LeO.refl _)
   | (with_reducible exact LeO.none _)
   | (with_reducible refine LeO.ite ?_ ?_)
   | (with_reducible refine LeO.bind ?_ (fun _ => ?_))
   | exact ratio_Floor.mono _ _ _
   | exact ratio_Sub.mono _ _ _ _ _
   | exact LeO.none _
   | refine LeO.ite ?_ ?_
   | refine LeO.bind ?_ (fun _ => ?_)
set_option maxHeartbeats 8000000 in
set_option maxRecDepth 100000 in
theorem ratio_Frac.calls (k : Nat) (a0_0 : Int) (a0_1 : Int) (r1 : Int) (r2 : Int) (w : World) (h : ratio_Frac.f k a0_0 a0_1 = some (r1, r2)) :
  Calls Try.prog 30 #[.agg #[.int .i64 a0_0, .int .i64 a0_1]] w fun e w' => e = .returned (.agg #[.int .i64 r1, .int .i64 r2]) ∧ Below w.heap.size w w' := by
 have hu24 := Try.underlying24
 have HB := Aside0.mk (Below.refl w.heap.size w)
 have H : ((ratio_Floor.f k a0_0 a0_1).bind fun bt189 => ((ratio_Sub.f k a0_0 a0_1 bt189.1 bt189.2).bind fun bt191 => (some (bt191.1, bt191.2)))) = some (r1, r2) := h
 clear h
 replace H := Option.bind_eq_some_iff.mp H
 obtain ⟨⟨t189, t190⟩, A20, H⟩ := H
 (try dsimp only at H)
 have A2 := Aside0.mk A20
 clear A20
 replace H := Option.bind_eq_some_iff.mp H
 obtain ⟨⟨t191, t192⟩, A30, H⟩ := H
 (try dsimp only at H)
 have A3 := Aside0.mk A30
 clear A30
 simp only [Option.some.injEq, Prod.mk.injEq] at H
 obtain ⟨rfl, rfl⟩ := H
 go_enter Try.func30, Try.ntmps30
 try go_wp2_with (first | ((with_reducible refine gate_dst (N := 1) rfl ?_); refine box_event ?hg (N := 1) ?hd (cs := #[.int .i64 a0_0, .int .i64 a0_1]) (t := 24) ?hr ?_; (case hd => rfl); (case hg => rfl); (case hr => first | (go_simp; done) | (go_simp; rfl)); intro gb187 hg w4 hbox hb; have BK187 := Aside0.mk (hbox); have GW187 := hz_ hg HB; have GE187 := hz_ hg HB; replace HB := hs HB hb; clear hb hbox hg) | ((with_reducible refine gate_dst (N := 2) rfl ?_); refine box_event ?hg (N := 2) ?hd (cs := #[.int .i64 0, .int .i64 0]) (t := 24) ?hr ?_; (case hd => rfl); (case hg => rfl); (case hr => first | (go_simp; done) | (go_simp; rfl)); intro gb188 hg w5 hbox hb; have BK188 := Aside0.mk (hbox); have GW188 := bz' HB hg (by repeat first | (with_reducible exact HB.out) | refine bl1 ?_ | (with_reducible refine bset ?_ ‹_›) | exact HB.out); have GE188 := bz' HB hg (by repeat first | (with_reducible exact HB.out) | refine bl1 ?_ | (with_reducible refine bset ?_ ‹_›) | exact HB.out); have NB187_188 := nlk hg BK187; have NB188_187 := ngk hg BK187; replace BK187 := kb BK187 hb; replace HB := hs' HB (by repeat first | (with_reducible exact HB.out) | refine bl1 ?_ | (with_reducible refine bset ?_ ‹_›) | exact HB.out) hb; clear hb hbox hg))
 replace BK187 := kd BK187
 replace BK188 := kd BK188
 replace HB := Aside0.mk (below_drew1 HB.out)
 refine start_ (n := 5) (S := fun w' => w'.cell? ⟨gb187, 0, none⟩ = some (.int .i64 a0_0) ∧ w'.cell? ⟨gb187, 1, none⟩ = some (.int .i64 a0_1)) (ds := []) #[false, false, false, false, false] (by kernel_rfl) rfl rfl ⟨(blk_cell BK187.out 0).trans rfl, (blk_cell BK187.out 1).trans rfl⟩ (fun hHeld => ?_)
 generalize w5.drew = w6 at BK187 BK188 HB hHeld ⊢
 refine take_ (i := 0) (N := some 3) (v := ?_) (a' := ?_) #[true, false, false, false, false] rfl rfl (by kernel_rfl) (fun _ _ _ h => h) (Or.inl ⟨by rfl, ?_⟩) hHeld ?_ ?_
 rotate_left
 ·
  rintro w' ⟨s0, s1⟩
  go_simp; with_reducible rfl
 rotate_left
 ·
  simp only [ap]
  rfl
 refine take_ (i := 1) (N := some 4) (v := ?_) (a' := ?_) #[true, true, false, false, false] rfl rfl (by kernel_rfl) (fun _ _ _ h => h) (Or.inl ⟨by rfl, ?_⟩) hHeld ?_ ?_
 rotate_left
 ·
  rintro w' ⟨s0, s1⟩
  go_simp; with_reducible rfl
 rotate_left
 ·
  simp only [ap]
  rfl
 refine one_ (i := 2) (N := some 5) #[true, true, true, false, false] rfl rfl (by kernel_rfl) (by decide) (fun K hK => ?_)
 refine goes_ Try.func28 (by kernel_rfl) rfl #[.agg #[.int .i64 a0_0, .int .i64 a0_1]] (by rfl) rfl rfl (by (try simp only [mp]); first | done | rfl | (simp only [ld]; rfl)) ?_
 with_reducible refine (ratio_Floor.calls k a0_0 a0_1 t189 t190 _ A2.out).mono ?_
 rintro e w7 ⟨rfl, hb⟩
 refine ⟨_, rfl, ?_⟩
 replace BK187 := kb BK187 hb
 replace BK188 := kb BK188 hb
 replace HB := hs' HB (by repeat first | (with_reducible exact HB.out) | refine bl1 ?_ | (with_reducible refine bset ?_ ‹_›) | exact HB.out) hb
 (try clear hb); (try clear hb2); (try clear hk); (try clear hi)
 refine hK.out _ _ ⟨(blk_cell BK187.out 0).trans rfl, (blk_cell BK187.out 1).trans rfl⟩ (fun hHeld => ?_)
 clear hK K
 refine norm_ (a' := ?_) ?_ ?_
 rotate_left
 ·
  show Act.put _ (some 5) _ = _
  simp only [ap]; rfl
 refine one_ (i := 3) (N := some 6) #[true, true, true, true, false] rfl rfl (by kernel_rfl) (by decide) (fun K hK => ?_)
 refine goes_ Try.func32 (by kernel_rfl) rfl #[.agg #[.int .i64 a0_0, .int .i64 a0_1], .agg #[.int .i64 t189, .int .i64 t190]] (by rfl) rfl rfl (by (try simp only [mp]); first | done | rfl | (simp only [ld]; rfl)) ?_
 with_reducible refine (ratio_Sub.calls k a0_0 a0_1 t189 t190 t191 t192 _ A3.out).mono ?_
 rintro e w8 ⟨rfl, hb⟩
 refine ⟨_, rfl, ?_⟩
 replace BK187 := kb BK187 hb
 replace BK188 := kb BK188 hb
 replace HB := hs' HB (by repeat first | (with_reducible exact HB.out) | refine bl1 ?_ | (with_reducible refine bset ?_ ‹_›) | exact HB.out) hb
 (try clear hb); (try clear hb2); (try clear hk); (try clear hi)
 refine hK.out _ _ ⟨(blk_cell BK187.out 0).trans rfl, (blk_cell BK187.out 1).trans rfl⟩ (fun hHeld => ?_)
 clear hK K
 refine norm_ (a' := ?_) ?_ ?_
 rotate_left
 ·
  show Act.put _ (some 6) _ = _
  simp only [ap]; rfl
 refine one_ (i := 4) (N := none) #[true, true, true, true, true] rfl rfl (by kernel_rfl) (by decide) (fun K hK => ?_)
 have hs9 : w8.cell? ⟨gb188, 0, none⟩ = some (.int .i64 0) := (blk_cell BK188.out 0).trans rfl
 have hfs9 := blk_frozen BK188.out 0
 have hns9_0 := NB187_188.out
 have hms9_0 := NB188_187.out
 have hs10 : w8.cell? ⟨gb188, 1, none⟩ = some (.int .i64 0) := (blk_cell BK188.out 1).trans rfl
 have hfs10 := blk_frozen BK188.out 1
 have hns10_0 := NB187_188.out
 have hms10_0 := NB188_187.out
 refine skip_ (w1 := ?_) (by rfl) rfl ?_ ?_
 rotate_left
 ·
  go_simp
  rfl
 refine hK.out _ _ ⟨((cell_far (p := ⟨gb188, _, none⟩) NB187_188.out _).trans (((cell_far (p := ⟨gb188, _, none⟩) NB187_188.out _).trans (hHeld.1)))), ((cell_far (p := ⟨gb188, _, none⟩) NB187_188.out _).trans (((cell_far (p := ⟨gb188, _, none⟩) NB187_188.out _).trans (hHeld.2))))⟩ (fun hHeld => ?_)
 clear hK K
 refine done_ (by kernel_rfl) ?_
 try go_wp2
 refine bodyPost_ret (results_cell_row rfl _ _ gb188 24 #[.int .i64 t191, .int .i64 t192] (0, 0) _ rfl (by refine bk ?_; refine blk_put (cs := #[.int .i64 t191, .int .i64 0]) ?_ 1 _ rfl; refine bk ?_; refine blk_put (cs := #[.int .i64 0, .int .i64 0]) ?_ 0 _ rfl; refine bk ?_; exact BK188.out) Try.underlying24 rfl (by kernel_rfl)) rfl ?_
 exact ⟨by first | rfl | (simp [errW_none, errW_some] <;> rfl) | (simp [*, errW_none, errW_some] <;> rfl), by repeat first | exact HB.out | refine bset ?_ ‹_› | apply below_alloc | apply pw_below_drewN | apply below_drew1⟩

/-! ### ratio_Abs: function 31 -/
def ratio_Abs.f (k : Nat) (a0_0 : Int) (a0_1 : Int) : Option (Int × Int) := if a0_0 < 0 then ((ratio_Neg.f k a0_0 a0_1).bind fun bt195 => (some (bt195.1, bt195.2))) else ((ratio_Neg.f k a0_0 a0_1).bind fun bt197 => ((ratio_Neg.f k bt197.1 bt197.2).bind fun bt199 => (some (bt199.1, bt199.2))))
theorem ratio_Abs.mono : ∀ a0 a1 k, LeO (ratio_Abs.f k a0 a1) (ratio_Abs.f (k + 1) a0 a1) := by
 intro a0 a1 k
 unfold ratio_Abs.f
 repeat' first
   | (with_reducible exact ratio_Neg.mono _ _ _)
   | (with_reducible exact LeO.refl _)
   | (with_reducible exact LeO.none _)
   | (with_reducible refine LeO.ite ?_ ?_)
   | (with_reducible refine LeO.bind ?_ (fun _ => ?_))
   | exact ratio_Neg.mono _ _ _
   | exact LeO.none _
   | refine LeO.ite ?_ ?_
   | refine LeO.bind ?_ (fun _ => ?_)
set_option maxHeartbeats 8000000 in
set_option maxRecDepth 100000 in
theorem ratio_Abs.calls (k : Nat) (a0_0 : Int) (a0_1 : Int) (r1 : Int) (r2 : Int) (w : World) (h : ratio_Abs.f k a0_0 a0_1 = some (r1, r2)) :
  Calls Try.prog 31 #[.agg #[.int .i64 a0_0, .int .i64 a0_1]] w fun e w' => e = .returned (.agg #[.int .i64 r1, .int .i64 r2]) ∧ Below w.heap.size w w' := by
 have hu24 := Try.underlying24
 have HB := Aside0.mk (Below.refl w.heap.size w)
 have H : (if a0_0 < 0 then ((ratio_Neg.f k a0_0 a0_1).bind fun bt195 => (some (bt195.1, bt195.2))) else ((ratio_Neg.f k a0_0 a0_1).bind fun bt197 => ((ratio_Neg.f k bt197.1 bt197.2).bind fun bt199 => (some (bt199.1, bt199.2))))) = some (r1, r2) := h
 clear h
 by_cases c2 : a0_0 < 0
 ·
  rw [if_pos c2] at H
  have c2b0 : decide (a0_0 < 0) = true := decide_eq_true c2
  clear c2
  replace H := Option.bind_eq_some_iff.mp H
  obtain ⟨⟨t195, t196⟩, A30, H⟩ := H
  (try dsimp only at H)
  have A3 := Aside0.mk A30
  clear A30
  simp only [Option.some.injEq, Prod.mk.injEq] at H
  obtain ⟨rfl, rfl⟩ := H
  go_enter Try.func31, Try.ntmps31
  go_wp2_with (first | ((with_reducible refine gate_dst (N := 1) rfl ?_); refine box_event ?hg (N := 1) ?hd (cs := #[.int .i64 a0_0, .int .i64 a0_1]) (t := 24) ?hr ?_; (case hd => rfl); (case hg => rfl); (case hr => first | (go_simp; done) | (go_simp; rfl)); intro gb193 hg w4 hbox hb; have BK193 := Aside0.mk (hbox); have GW193 := hz_ hg HB; have GE193 := hz_ hg HB; replace HB := hs HB hb; clear hb hbox hg) | ((with_reducible refine gate_dst (N := 2) rfl ?_); refine box_event ?hg (N := 2) ?hd (cs := #[.int .i64 0, .int .i64 0]) (t := 24) ?hr ?_; (case hd => rfl); (case hg => rfl); (case hr => first | (go_simp; done) | (go_simp; rfl)); intro gb194 hg w5 hbox hb; have BK194 := Aside0.mk (hbox); have GW194 := bz' HB hg (by repeat first | (with_reducible exact HB.out) | refine bl1 ?_ | (with_reducible refine bset ?_ ‹_›) | exact HB.out); have GE194 := bz' HB hg (by repeat first | (with_reducible exact HB.out) | refine bl1 ?_ | (with_reducible refine bset ?_ ‹_›) | exact HB.out); have NB193_194 := nlk hg BK193; have NB194_193 := ngk hg BK193; replace BK193 := kb BK193 hb; replace HB := hs' HB (by repeat first | (with_reducible exact HB.out) | refine bl1 ?_ | (with_reducible refine bset ?_ ‹_›) | exact HB.out) hb; clear hb hbox hg; have hnb6 := NB193_194.out; have hnc6 := NB194_193.out; have hcz7_0 : w5.cell? ⟨gb193, 0, none⟩ = some (.int .i64 a0_0) := (blk_cell BK193.out 0).trans rfl; have hcz7_1 : w5.cell? ⟨gb193, 1, none⟩ = some (.int .i64 a0_1) := (blk_cell BK193.out 1).trans rfl; have hfz7_0 := blk_frozen BK193.out 0; have hfz7_1 := blk_frozen BK193.out 1) | ((with_reducible refine gate_callee (f := 43) rfl ?_); refine goesL_ (some 7) rfl rfl Try.func43 (by kernel_rfl) rfl #[.agg #[.int .i64 a0_0, .int .i64 a0_1]] rfl (by (try simp only [mp]); first | done | rfl | (simp only [ld]; rfl)) ?_; (with_reducible refine (ratio_Neg.calls k a0_0 a0_1 t195 t196 _ A3.out).mono ?_); rintro e w8 ⟨rfl, hb⟩; refine ⟨_, rfl, ?_⟩; replace BK193 := kb BK193 hb; replace BK194 := kb BK194 hb; replace HB := hs' HB (by repeat first | (with_reducible exact HB.out) | refine bl1 ?_ | (with_reducible refine bset ?_ ‹_›) | exact HB.out) hb; (try clear hb); (try clear hb2); (try clear hk); (try clear hi); have hcz9_0 : w8.cell? ⟨gb194, 0, none⟩ = some (.int .i64 0) := (blk_cell BK194.out 0).trans rfl; have hcz9_1 : w8.cell? ⟨gb194, 1, none⟩ = some (.int .i64 0) := (blk_cell BK194.out 1).trans rfl; have hfz9_0 := blk_frozen BK194.out 0; have hfz9_1 := blk_frozen BK194.out 1))
  refine bodyPost_ret (results_cell_row rfl _ _ gb194 24 #[.int .i64 t195, .int .i64 t196] (0, 0) _ rfl (by refine bk ?_; refine blk_put (cs := #[.int .i64 t195, .int .i64 0]) ?_ 1 _ rfl; refine bk ?_; refine blk_put (cs := #[.int .i64 0, .int .i64 0]) ?_ 0 _ rfl; refine bk ?_; exact BK194.out) Try.underlying24 rfl (by kernel_rfl)) rfl ?_
  exact ⟨by first | rfl | (simp [errW_none, errW_some] <;> rfl) | (simp [*, errW_none, errW_some] <;> rfl), by repeat first | exact HB.out | refine bset ?_ ‹_› | apply below_alloc | apply pw_below_drewN | apply below_drew1⟩
 ·
  rw [if_neg c2] at H
  have c2b0 : decide (a0_0 < 0) = false := decide_eq_false c2
  clear c2
  replace H := Option.bind_eq_some_iff.mp H
  obtain ⟨⟨t197, t198⟩, A100, H⟩ := H
  (try dsimp only at H)
  have A10 := Aside0.mk A100
  clear A100
  replace H := Option.bind_eq_some_iff.mp H
  obtain ⟨⟨t199, t200⟩, A110, H⟩ := H
  (try dsimp only at H)
  have A11 := Aside0.mk A110
  clear A110
  simp only [Option.some.injEq, Prod.mk.injEq] at H
  obtain ⟨rfl, rfl⟩ := H
  go_enter Try.func31, Try.ntmps31
  go_wp2_with (first | ((with_reducible refine gate_dst (N := 1) rfl ?_); refine box_event ?hg (N := 1) ?hd (cs := #[.int .i64 a0_0, .int .i64 a0_1]) (t := 24) ?hr ?_; (case hd => rfl); (case hg => rfl); (case hr => first | (go_simp; done) | (go_simp; rfl)); intro gb193 hg w12 hbox hb; have BK193 := Aside0.mk (hbox); have GW193 := hz_ hg HB; have GE193 := hz_ hg HB; replace HB := hs HB hb; clear hb hbox hg) | ((with_reducible refine gate_dst (N := 2) rfl ?_); refine box_event ?hg (N := 2) ?hd (cs := #[.int .i64 0, .int .i64 0]) (t := 24) ?hr ?_; (case hd => rfl); (case hg => rfl); (case hr => first | (go_simp; done) | (go_simp; rfl)); intro gb194 hg w13 hbox hb; have BK194 := Aside0.mk (hbox); have GW194 := bz' HB hg (by repeat first | (with_reducible exact HB.out) | refine bl1 ?_ | (with_reducible refine bset ?_ ‹_›) | exact HB.out); have GE194 := bz' HB hg (by repeat first | (with_reducible exact HB.out) | refine bl1 ?_ | (with_reducible refine bset ?_ ‹_›) | exact HB.out); have NB193_194 := nlk hg BK193; have NB194_193 := ngk hg BK193; replace BK193 := kb BK193 hb; replace HB := hs' HB (by repeat first | (with_reducible exact HB.out) | refine bl1 ?_ | (with_reducible refine bset ?_ ‹_›) | exact HB.out) hb; clear hb hbox hg; have hnb14 := NB193_194.out; have hnc14 := NB194_193.out; have hcz15_0 : w13.cell? ⟨gb193, 0, none⟩ = some (.int .i64 a0_0) := (blk_cell BK193.out 0).trans rfl; have hcz15_1 : w13.cell? ⟨gb193, 1, none⟩ = some (.int .i64 a0_1) := (blk_cell BK193.out 1).trans rfl; have hfz15_0 := blk_frozen BK193.out 0; have hfz15_1 := blk_frozen BK193.out 1) | ((with_reducible refine gate_callee (f := 43) rfl ?_); refine goesL_ (some 9) rfl rfl Try.func43 (by kernel_rfl) rfl #[.agg #[.int .i64 a0_0, .int .i64 a0_1]] rfl (by (try simp only [mp]); first | done | rfl | (simp only [ld]; rfl)) ?_; (with_reducible refine (ratio_Neg.calls k a0_0 a0_1 t197 t198 _ A10.out).mono ?_); rintro e w16 ⟨rfl, hb⟩; refine ⟨_, rfl, ?_⟩; replace BK193 := kb BK193 hb; replace BK194 := kb BK194 hb; replace HB := hs' HB (by repeat first | (with_reducible exact HB.out) | refine bl1 ?_ | (with_reducible refine bset ?_ ‹_›) | exact HB.out) hb; (try clear hb); (try clear hb2); (try clear hk); (try clear hi)) | ((with_reducible refine gate_callee (f := 43) rfl ?_); refine goesL_ (some 10) rfl rfl Try.func43 (by kernel_rfl) rfl #[.agg #[.int .i64 t197, .int .i64 t198]] rfl (by (try simp only [mp]); first | done | rfl | (simp only [ld]; rfl)) ?_; (with_reducible refine (ratio_Neg.calls k t197 t198 t199 t200 _ A11.out).mono ?_); rintro e w17 ⟨rfl, hb⟩; refine ⟨_, rfl, ?_⟩; replace BK193 := kb BK193 hb; replace BK194 := kb BK194 hb; replace HB := hs' HB (by repeat first | (with_reducible exact HB.out) | refine bl1 ?_ | (with_reducible refine bset ?_ ‹_›) | exact HB.out) hb; (try clear hb); (try clear hb2); (try clear hk); (try clear hi); have hcz18_0 : w17.cell? ⟨gb194, 0, none⟩ = some (.int .i64 0) := (blk_cell BK194.out 0).trans rfl; have hcz18_1 : w17.cell? ⟨gb194, 1, none⟩ = some (.int .i64 0) := (blk_cell BK194.out 1).trans rfl; have hfz18_0 := blk_frozen BK194.out 0; have hfz18_1 := blk_frozen BK194.out 1))
  refine bodyPost_ret (results_cell_row rfl _ _ gb194 24 #[.int .i64 t199, .int .i64 t200] (0, 0) _ rfl (by refine bk ?_; refine blk_put (cs := #[.int .i64 t199, .int .i64 0]) ?_ 1 _ rfl; refine bk ?_; refine blk_put (cs := #[.int .i64 0, .int .i64 0]) ?_ 0 _ rfl; refine bk ?_; exact BK194.out) Try.underlying24 rfl (by kernel_rfl)) rfl ?_
  exact ⟨by first | rfl | (simp [errW_none, errW_some] <;> rfl) | (simp [*, errW_none, errW_some] <;> rfl), by repeat first | exact HB.out | refine bset ?_ ‹_› | apply below_alloc | apply pw_below_drewN | apply below_drew1⟩
end Go.Proofs.Ytgecbfemlpmpeaa.SNumberSays
