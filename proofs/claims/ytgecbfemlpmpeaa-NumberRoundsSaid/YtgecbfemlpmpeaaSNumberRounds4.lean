/- Turned by a program of this session out of what the print prints for the functions that NumberRounds reaches: the same proofs in shorter words. -/
import Derived.Test.YtgecbfemlpmpeaaSNumberRounds0
import Derived.Test.YtgecbfemlpmpeaaSNumberRounds2
import Derived.Test.YtgecbfemlpmpeaaSNumberRounds3
namespace Go.Proofs.Ytgecbfemlpmpeaa.SNumberRounds
open Go.RowKit Go.Proofs.Ytgecbfemlpmpeaa.Wd.PrintWords Go.Proofs.Ytgecbfemlpmpeaa.Wd.PrintLast Go.Proofs.Ytgecbfemlpmpeaa.Wd.PrintMore
set_option linter.unusedVariables false
set_option linter.unusedSimpArgs false
attribute [local go_sem] max2_int min2_int max_two min_two max_three min_three max_four min_four   -- for this text's walks alone
/-! ### ratio_Round: function 29 -/
def ratio_Round.f (k : Nat) (a0_0 : Int) (a0_1 : Int) : Option (Int × Int) := (ratio_Is.f k a0_0 a0_1).bind fun t157 => (if t157 = true then ((ratio_floor.f a0_0 a0_1).bind fun t158 => (if (wrap64 (2 * (wrap64 (a0_0 - (wrap64 (t158 * a0_1)))))) > a0_1 then ((ratio_Make.f k (wrap64 (t158 + 1)) 1).bind fun bt159 => (some (bt159.1, bt159.2))) else (if (wrap64 (2 * (wrap64 (a0_0 - (wrap64 (t158 * a0_1)))))) = a0_1 then (if (Int.tmod t158 2) = 0 then ((ratio_Make.f k t158 1).bind fun bt161 => (some (bt161.1, bt161.2))) else ((ratio_Make.f k (wrap64 (t158 + 1)) 1).bind fun bt163 => (some (bt163.1, bt163.2)))) else ((ratio_Make.f k t158 1).bind fun bt165 => (some (bt165.1, bt165.2)))))) else (some (0, 0)))
theorem ratio_Round.mono : ∀ a0 a1 k, LeO (ratio_Round.f k a0 a1) (ratio_Round.f (k + 1) a0 a1) := by
 intro a0 a1 k
 unfold ratio_Round.f
 repeat' first
   | (with_reducible exact ratio_Is.mono _ _ _)
   | (with_reducible exact ratio_Make.mono _ _ _)
   | (with_reducible exact LeO.refl _)
   | (with_reducible exact LeO.none _)
   | (with_reducible refine LeO.ite ?_ ?_)
   | (with_reducible refine LeO.bind ?_ (fun _ => ?_))
   | exact ratio_Is.mono _ _ _
   | exact ratio_Make.mono _ _ _
   | exact LeO.none _
   | refine LeO.ite ?_ ?_
   | refine LeO.bind ?_ (fun _ => ?_)
set_option maxHeartbeats 8000000 in
set_option maxRecDepth 100000 in
theorem ratio_Round.calls (k : Nat) (a0_0 : Int) (a0_1 : Int) (r1 : Int) (r2 : Int) (w : World) (h : ratio_Round.f k a0_0 a0_1 = some (r1, r2)) :
  Calls Try.prog 29 #[.agg #[.int .i64 a0_0, .int .i64 a0_1]] w fun e w' => e = .returned (.agg #[.int .i64 r1, .int .i64 r2]) ∧ Below w.heap.size w w' := by
 have hu24 := Try.underlying24
 have HB := Aside0.mk (Below.refl w.heap.size w)
 have H : ((ratio_Is.f k a0_0 a0_1).bind fun t157 => (if t157 = true then ((ratio_floor.f a0_0 a0_1).bind fun t158 => (if (wrap64 (2 * (wrap64 (a0_0 - (wrap64 (t158 * a0_1)))))) > a0_1 then ((ratio_Make.f k (wrap64 (t158 + 1)) 1).bind fun bt159 => (some (bt159.1, bt159.2))) else (if (wrap64 (2 * (wrap64 (a0_0 - (wrap64 (t158 * a0_1)))))) = a0_1 then (if (Int.tmod t158 2) = 0 then ((ratio_Make.f k t158 1).bind fun bt161 => (some (bt161.1, bt161.2))) else ((ratio_Make.f k (wrap64 (t158 + 1)) 1).bind fun bt163 => (some (bt163.1, bt163.2)))) else ((ratio_Make.f k t158 1).bind fun bt165 => (some (bt165.1, bt165.2)))))) else (some (0, 0)))) = some (r1, r2) := h
 clear h
 replace H := Option.bind_eq_some_iff.mp H
 obtain ⟨t157, A20, H⟩ := H
 (try dsimp only at H)
 have A2 := Aside0.mk A20
 clear A20
 by_cases c3 : t157 = true
 ·
  subst c3
  rw [if_pos rfl] at H
  replace H := Option.bind_eq_some_iff.mp H
  obtain ⟨t158, A40, H⟩ := H
  (try dsimp only at H)
  have A4 := Aside0.mk A40
  clear A40
  by_cases c5 : (wrap64 (2 * (wrap64 (a0_0 - (wrap64 (t158 * a0_1)))))) > a0_1
  ·
   rw [if_pos c5] at H
   have c5b0 : decide (a0_1 < (wrap64 (2 * (wrap64 (a0_0 - (wrap64 (t158 * a0_1))))))) = true := decide_eq_true c5
   clear c5
   replace H := Option.bind_eq_some_iff.mp H
   obtain ⟨⟨t159, t160⟩, A60, H⟩ := H
   (try dsimp only at H)
   have A6 := Aside0.mk A60
   clear A60
   simp only [Option.some.injEq, Prod.mk.injEq] at H
   obtain ⟨rfl, rfl⟩ := H
   go_enter Try.func29, Try.ntmps29
   go_wp2_with (first | ((with_reducible refine gate_dst (N := 1) rfl ?_); refine box_event ?hg (N := 1) ?hd (cs := #[.int .i64 a0_0, .int .i64 a0_1]) (t := 24) ?hr ?_; (case hd => rfl); (case hg => rfl); (case hr => first | (go_simp; done) | (go_simp; rfl)); intro gb155 hg w7 hbox hb; have BK155 := Aside0.mk (hbox); have GW155 := hz_ hg HB; have GE155 := hz_ hg HB; replace HB := hs HB hb; clear hb hbox hg) | ((with_reducible refine gate_dst (N := 2) rfl ?_); refine box_event ?hg (N := 2) ?hd (cs := #[.int .i64 0, .int .i64 0]) (t := 24) ?hr ?_; (case hd => rfl); (case hg => rfl); (case hr => first | (go_simp; done) | (go_simp; rfl)); intro gb156 hg w8 hbox hb; have BK156 := Aside0.mk (hbox); have GW156 := bz' HB hg (by repeat first | (with_reducible exact HB.out) | refine bl1 ?_ | (with_reducible refine bset ?_ ‹_›) | exact HB.out); have GE156 := bz' HB hg (by repeat first | (with_reducible exact HB.out) | refine bl1 ?_ | (with_reducible refine bset ?_ ‹_›) | exact HB.out); have NB155_156 := nlk hg BK155; have NB156_155 := ngk hg BK155; replace BK155 := kb BK155 hb; replace HB := hs' HB (by repeat first | (with_reducible exact HB.out) | refine bl1 ?_ | (with_reducible refine bset ?_ ‹_›) | exact HB.out) hb; clear hb hbox hg; have hnb9 := NB155_156.out; have hnc9 := NB156_155.out; have hcz10_0 : w8.cell? ⟨gb155, 0, none⟩ = some (.int .i64 a0_0) := (blk_cell BK155.out 0).trans rfl; have hcz10_1 : w8.cell? ⟨gb155, 1, none⟩ = some (.int .i64 a0_1) := (blk_cell BK155.out 1).trans rfl; have hfz10_0 := blk_frozen BK155.out 0; have hfz10_1 := blk_frozen BK155.out 1) | ((with_reducible refine gate_callee (f := 33) rfl ?_); refine goesL_ (some 6) rfl rfl Try.func33 (by kernel_rfl) rfl #[.agg #[.int .i64 a0_0, .int .i64 a0_1]] rfl (by (try simp only [mp]); first | done | rfl | (simp only [ld]; rfl)) ?_; (with_reducible refine (ratio_Is.calls k a0_0 a0_1 true _ A2.out).mono ?_); rintro e w11 ⟨rfl, hb⟩; refine ⟨_, rfl, ?_⟩; replace BK155 := kb BK155 hb; replace BK156 := kb BK156 hb; replace HB := hs' HB (by repeat first | (with_reducible exact HB.out) | refine bl1 ?_ | (with_reducible refine bset ?_ ‹_›) | exact HB.out) hb; (try clear hb); (try clear hb2); (try clear hk); (try clear hi); have hcz12_0 : w11.cell? ⟨gb155, 0, none⟩ = some (.int .i64 a0_0) := (blk_cell BK155.out 0).trans rfl; have hcz12_1 : w11.cell? ⟨gb155, 1, none⟩ = some (.int .i64 a0_1) := (blk_cell BK155.out 1).trans rfl; have hfz12_0 := blk_frozen BK155.out 0; have hfz12_1 := blk_frozen BK155.out 1) | ((with_reducible refine gate_callee (f := 64) rfl ?_); refine goesL_ (some 13) rfl rfl Try.func64 (by kernel_rfl) rfl #[.int .i64 a0_0, .int .i64 a0_1] rfl (by (try simp only [mp]); first | done | rfl | (simp only [ld]; rfl)) ?_; (with_reducible refine (ratio_floor.calls a0_0 a0_1 t158 _ A4.out).mono ?_); rintro e w' ⟨rfl, ⟨nd, rfl⟩⟩; refine ⟨_, rfl, ?_⟩; skip) | ((with_reducible refine gate_callee (f := 20) rfl ?_); refine goesL_ (some 40) rfl rfl Try.func20 (by kernel_rfl) rfl #[.int .i64 (wrap64 (t158 + 1)), .int .i64 1] rfl (by (try simp only [mp]); first | done | rfl | (simp only [ld]; rfl)) ?_; (with_reducible refine (ratio_Make.calls k (wrap64 (t158 + 1)) 1 t159 t160 _ A6.out).mono ?_); rintro e w13 ⟨rfl, hb⟩; refine ⟨_, rfl, ?_⟩; replace BK155 := kb BK155 hb; replace BK156 := kb BK156 hb; replace HB := hs' HB (by repeat first | (with_reducible exact HB.out) | refine bl1 ?_ | (with_reducible refine bset ?_ ‹_›) | exact HB.out) hb; (try clear hb); (try clear hb2); (try clear hk); (try clear hi); have hcz14_0 : w13.cell? ⟨gb156, 0, none⟩ = some (.int .i64 0) := (blk_cell BK156.out 0).trans rfl; have hcz14_1 : w13.cell? ⟨gb156, 1, none⟩ = some (.int .i64 0) := (blk_cell BK156.out 1).trans rfl; have hfz14_0 := blk_frozen BK156.out 0; have hfz14_1 := blk_frozen BK156.out 1))
   refine bodyPost_ret (results_cell_row rfl _ _ gb156 24 #[.int .i64 t159, .int .i64 t160] (0, 0) _ rfl (by refine bk ?_; refine blk_put (cs := #[.int .i64 t159, .int .i64 0]) ?_ 1 _ rfl; refine bk ?_; refine blk_put (cs := #[.int .i64 0, .int .i64 0]) ?_ 0 _ rfl; refine bk ?_; exact BK156.out) Try.underlying24 rfl (by kernel_rfl)) rfl ?_
   exact ⟨by first | rfl | (simp [errW_none, errW_some] <;> rfl) | (simp [*, errW_none, errW_some] <;> rfl), by repeat first | exact HB.out | refine bset ?_ ‹_› | apply below_alloc | apply pw_below_drewN | apply below_drew1⟩
  ·
   rw [if_neg c5] at H
   have c5b0 : decide (a0_1 < (wrap64 (2 * (wrap64 (a0_0 - (wrap64 (t158 * a0_1))))))) = false := decide_eq_false c5
   clear c5
   by_cases c15 : (wrap64 (2 * (wrap64 (a0_0 - (wrap64 (t158 * a0_1)))))) = a0_1
   ·
    rw [if_pos c15] at H
    have c15b0 : ((wrap64 (2 * (wrap64 (a0_0 - (wrap64 (t158 * a0_1)))))) == a0_1) = true := beq_iff_eq.mpr c15
    have c15b1 : ((wrap64 (2 * (wrap64 (a0_0 - (wrap64 (t158 * a0_1)))))) != a0_1) = false := bne_eq_false_iff_eq.mpr c15
    clear c15
    by_cases c16 : (Int.tmod t158 2) = 0
    ·
     rw [if_pos c16] at H
     have c16b0 : ((Int.tmod t158 2) == 0) = true := beq_iff_eq.mpr c16
     have c16b1 : ((Int.tmod t158 2) != 0) = false := bne_eq_false_iff_eq.mpr c16
     clear c16
     replace H := Option.bind_eq_some_iff.mp H
     obtain ⟨⟨t161, t162⟩, A170, H⟩ := H
     (try dsimp only at H)
     have A17 := Aside0.mk A170
     clear A170
     simp only [Option.some.injEq, Prod.mk.injEq] at H
     obtain ⟨rfl, rfl⟩ := H
     go_enter Try.func29, Try.ntmps29
     go_wp2_with (first | ((with_reducible refine gate_dst (N := 1) rfl ?_); refine box_event ?hg (N := 1) ?hd (cs := #[.int .i64 a0_0, .int .i64 a0_1]) (t := 24) ?hr ?_; (case hd => rfl); (case hg => rfl); (case hr => first | (go_simp; done) | (go_simp; rfl)); intro gb155 hg w18 hbox hb; have BK155 := Aside0.mk (hbox); have GW155 := hz_ hg HB; have GE155 := hz_ hg HB; replace HB := hs HB hb; clear hb hbox hg) | ((with_reducible refine gate_dst (N := 2) rfl ?_); refine box_event ?hg (N := 2) ?hd (cs := #[.int .i64 0, .int .i64 0]) (t := 24) ?hr ?_; (case hd => rfl); (case hg => rfl); (case hr => first | (go_simp; done) | (go_simp; rfl)); intro gb156 hg w19 hbox hb; have BK156 := Aside0.mk (hbox); have GW156 := bz' HB hg (by repeat first | (with_reducible exact HB.out) | refine bl1 ?_ | (with_reducible refine bset ?_ ‹_›) | exact HB.out); have GE156 := bz' HB hg (by repeat first | (with_reducible exact HB.out) | refine bl1 ?_ | (with_reducible refine bset ?_ ‹_›) | exact HB.out); have NB155_156 := nlk hg BK155; have NB156_155 := ngk hg BK155; replace BK155 := kb BK155 hb; replace HB := hs' HB (by repeat first | (with_reducible exact HB.out) | refine bl1 ?_ | (with_reducible refine bset ?_ ‹_›) | exact HB.out) hb; clear hb hbox hg; have hnb20 := NB155_156.out; have hnc20 := NB156_155.out; have hcz21_0 : w19.cell? ⟨gb155, 0, none⟩ = some (.int .i64 a0_0) := (blk_cell BK155.out 0).trans rfl; have hcz21_1 : w19.cell? ⟨gb155, 1, none⟩ = some (.int .i64 a0_1) := (blk_cell BK155.out 1).trans rfl; have hfz21_0 := blk_frozen BK155.out 0; have hfz21_1 := blk_frozen BK155.out 1) | ((with_reducible refine gate_callee (f := 33) rfl ?_); refine goesL_ (some 6) rfl rfl Try.func33 (by kernel_rfl) rfl #[.agg #[.int .i64 a0_0, .int .i64 a0_1]] rfl (by (try simp only [mp]); first | done | rfl | (simp only [ld]; rfl)) ?_; (with_reducible refine (ratio_Is.calls k a0_0 a0_1 true _ A2.out).mono ?_); rintro e w22 ⟨rfl, hb⟩; refine ⟨_, rfl, ?_⟩; replace BK155 := kb BK155 hb; replace BK156 := kb BK156 hb; replace HB := hs' HB (by repeat first | (with_reducible exact HB.out) | refine bl1 ?_ | (with_reducible refine bset ?_ ‹_›) | exact HB.out) hb; (try clear hb); (try clear hb2); (try clear hk); (try clear hi); have hcz23_0 : w22.cell? ⟨gb155, 0, none⟩ = some (.int .i64 a0_0) := (blk_cell BK155.out 0).trans rfl; have hcz23_1 : w22.cell? ⟨gb155, 1, none⟩ = some (.int .i64 a0_1) := (blk_cell BK155.out 1).trans rfl; have hfz23_0 := blk_frozen BK155.out 0; have hfz23_1 := blk_frozen BK155.out 1) | ((with_reducible refine gate_callee (f := 64) rfl ?_); refine goesL_ (some 13) rfl rfl Try.func64 (by kernel_rfl) rfl #[.int .i64 a0_0, .int .i64 a0_1] rfl (by (try simp only [mp]); first | done | rfl | (simp only [ld]; rfl)) ?_; (with_reducible refine (ratio_floor.calls a0_0 a0_1 t158 _ A4.out).mono ?_); rintro e w' ⟨rfl, ⟨nd, rfl⟩⟩; refine ⟨_, rfl, ?_⟩; skip) | ((with_reducible refine gate_callee (f := 20) rfl ?_); refine goesL_ (some 40) rfl rfl Try.func20 (by kernel_rfl) rfl #[.int .i64 t158, .int .i64 1] rfl (by (try simp only [mp]); first | done | rfl | (simp only [ld]; rfl)) ?_; (with_reducible refine (ratio_Make.calls k t158 1 t161 t162 _ A17.out).mono ?_); rintro e w24 ⟨rfl, hb⟩; refine ⟨_, rfl, ?_⟩; replace BK155 := kb BK155 hb; replace BK156 := kb BK156 hb; replace HB := hs' HB (by repeat first | (with_reducible exact HB.out) | refine bl1 ?_ | (with_reducible refine bset ?_ ‹_›) | exact HB.out) hb; (try clear hb); (try clear hb2); (try clear hk); (try clear hi); have hcz25_0 : w24.cell? ⟨gb156, 0, none⟩ = some (.int .i64 0) := (blk_cell BK156.out 0).trans rfl; have hcz25_1 : w24.cell? ⟨gb156, 1, none⟩ = some (.int .i64 0) := (blk_cell BK156.out 1).trans rfl; have hfz25_0 := blk_frozen BK156.out 0; have hfz25_1 := blk_frozen BK156.out 1))
     refine bodyPost_ret (results_cell_row rfl _ _ gb156 24 #[.int .i64 t161, .int .i64 t162] (0, 0) _ rfl (by refine bk ?_; refine blk_put (cs := #[.int .i64 t161, .int .i64 0]) ?_ 1 _ rfl; refine bk ?_; refine blk_put (cs := #[.int .i64 0, .int .i64 0]) ?_ 0 _ rfl; refine bk ?_; exact BK156.out) Try.underlying24 rfl (by kernel_rfl)) rfl ?_
     exact ⟨by first | rfl | (simp [errW_none, errW_some] <;> rfl) | (simp [*, errW_none, errW_some] <;> rfl), by repeat first | exact HB.out | refine bset ?_ ‹_› | apply below_alloc | apply pw_below_drewN | apply below_drew1⟩
    ·
     rw [if_neg c16] at H
     have c16b0 : ((Int.tmod t158 2) == 0) = false := beq_eq_false_iff_ne.mpr c16
     have c16b1 : ((Int.tmod t158 2) != 0) = true := bne_iff_ne.mpr c16
     replace H := Option.bind_eq_some_iff.mp H
     obtain ⟨⟨t163, t164⟩, A260, H⟩ := H
     (try dsimp only at H)
     have A26 := Aside0.mk A260
     clear A260
     simp only [Option.some.injEq, Prod.mk.injEq] at H
     obtain ⟨rfl, rfl⟩ := H
     go_enter Try.func29, Try.ntmps29
     go_wp2_with (first | ((with_reducible refine gate_dst (N := 1) rfl ?_); refine box_event ?hg (N := 1) ?hd (cs := #[.int .i64 a0_0, .int .i64 a0_1]) (t := 24) ?hr ?_; (case hd => rfl); (case hg => rfl); (case hr => first | (go_simp; done) | (go_simp; rfl)); intro gb155 hg w27 hbox hb; have BK155 := Aside0.mk (hbox); have GW155 := hz_ hg HB; have GE155 := hz_ hg HB; replace HB := hs HB hb; clear hb hbox hg) | ((with_reducible refine gate_dst (N := 2) rfl ?_); refine box_event ?hg (N := 2) ?hd (cs := #[.int .i64 0, .int .i64 0]) (t := 24) ?hr ?_; (case hd => rfl); (case hg => rfl); (case hr => first | (go_simp; done) | (go_simp; rfl)); intro gb156 hg w28 hbox hb; have BK156 := Aside0.mk (hbox); have GW156 := bz' HB hg (by repeat first | (with_reducible exact HB.out) | refine bl1 ?_ | (with_reducible refine bset ?_ ‹_›) | exact HB.out); have GE156 := bz' HB hg (by repeat first | (with_reducible exact HB.out) | refine bl1 ?_ | (with_reducible refine bset ?_ ‹_›) | exact HB.out); have NB155_156 := nlk hg BK155; have NB156_155 := ngk hg BK155; replace BK155 := kb BK155 hb; replace HB := hs' HB (by repeat first | (with_reducible exact HB.out) | refine bl1 ?_ | (with_reducible refine bset ?_ ‹_›) | exact HB.out) hb; clear hb hbox hg; have hnb29 := NB155_156.out; have hnc29 := NB156_155.out; have hcz30_0 : w28.cell? ⟨gb155, 0, none⟩ = some (.int .i64 a0_0) := (blk_cell BK155.out 0).trans rfl; have hcz30_1 : w28.cell? ⟨gb155, 1, none⟩ = some (.int .i64 a0_1) := (blk_cell BK155.out 1).trans rfl; have hfz30_0 := blk_frozen BK155.out 0; have hfz30_1 := blk_frozen BK155.out 1) | ((with_reducible refine gate_callee (f := 33) rfl ?_); refine goesL_ (some 6) rfl rfl Try.func33 (by kernel_rfl) rfl #[.agg #[.int .i64 a0_0, .int .i64 a0_1]] rfl (by (try simp only [mp]); first | done | rfl | (simp only [ld]; rfl)) ?_; (with_reducible refine (ratio_Is.calls k a0_0 a0_1 true _ A2.out).mono ?_); rintro e w31 ⟨rfl, hb⟩; refine ⟨_, rfl, ?_⟩; replace BK155 := kb BK155 hb; replace BK156 := kb BK156 hb; replace HB := hs' HB (by repeat first | (with_reducible exact HB.out) | refine bl1 ?_ | (with_reducible refine bset ?_ ‹_›) | exact HB.out) hb; (try clear hb); (try clear hb2); (try clear hk); (try clear hi); have hcz32_0 : w31.cell? ⟨gb155, 0, none⟩ = some (.int .i64 a0_0) := (blk_cell BK155.out 0).trans rfl; have hcz32_1 : w31.cell? ⟨gb155, 1, none⟩ = some (.int .i64 a0_1) := (blk_cell BK155.out 1).trans rfl; have hfz32_0 := blk_frozen BK155.out 0; have hfz32_1 := blk_frozen BK155.out 1) | ((with_reducible refine gate_callee (f := 64) rfl ?_); refine goesL_ (some 13) rfl rfl Try.func64 (by kernel_rfl) rfl #[.int .i64 a0_0, .int .i64 a0_1] rfl (by (try simp only [mp]); first | done | rfl | (simp only [ld]; rfl)) ?_; (with_reducible refine (ratio_floor.calls a0_0 a0_1 t158 _ A4.out).mono ?_); rintro e w' ⟨rfl, ⟨nd, rfl⟩⟩; refine ⟨_, rfl, ?_⟩; skip) | ((with_reducible refine gate_callee (f := 20) rfl ?_); refine goesL_ (some 40) rfl rfl Try.func20 (by kernel_rfl) rfl #[.int .i64 (wrap64 (t158 + 1)), .int .i64 1] rfl (by (try simp only [mp]); first | done | rfl | (simp only [ld]; rfl)) ?_; (with_reducible refine (ratio_Make.calls k (wrap64 (t158 + 1)) 1 t163 t164 _ A26.out).mono ?_); rintro e w33 ⟨rfl, hb⟩; refine ⟨_, rfl, ?_⟩; replace BK155 := kb BK155 hb; replace BK156 := kb BK156 hb; replace HB := hs' HB (by repeat first | (with_reducible exact HB.out) | refine bl1 ?_ | (with_reducible refine bset ?_ ‹_›) | exact HB.out) hb; (try clear hb); (try clear hb2); (try clear hk); (try clear hi); have hcz34_0 : w33.cell? ⟨gb156, 0, none⟩ = some (.int .i64 0) := (blk_cell BK156.out 0).trans rfl; have hcz34_1 : w33.cell? ⟨gb156, 1, none⟩ = some (.int .i64 0) := (blk_cell BK156.out 1).trans rfl; have hfz34_0 := blk_frozen BK156.out 0; have hfz34_1 := blk_frozen BK156.out 1))
     refine bodyPost_ret (results_cell_row rfl _ _ gb156 24 #[.int .i64 t163, .int .i64 t164] (0, 0) _ rfl (by refine bk ?_; refine blk_put (cs := #[.int .i64 t163, .int .i64 0]) ?_ 1 _ rfl; refine bk ?_; refine blk_put (cs := #[.int .i64 0, .int .i64 0]) ?_ 0 _ rfl; refine bk ?_; exact BK156.out) Try.underlying24 rfl (by kernel_rfl)) rfl ?_
     exact ⟨by first | rfl | (simp [errW_none, errW_some] <;> rfl) | (simp [*, errW_none, errW_some] <;> rfl), by repeat first | exact HB.out | refine bset ?_ ‹_› | apply below_alloc | apply pw_below_drewN | apply below_drew1⟩
   ·
    rw [if_neg c15] at H
    have c15b0 : ((wrap64 (2 * (wrap64 (a0_0 - (wrap64 (t158 * a0_1)))))) == a0_1) = false := beq_eq_false_iff_ne.mpr c15
    have c15b1 : ((wrap64 (2 * (wrap64 (a0_0 - (wrap64 (t158 * a0_1)))))) != a0_1) = true := bne_iff_ne.mpr c15
    replace H := Option.bind_eq_some_iff.mp H
    obtain ⟨⟨t165, t166⟩, A350, H⟩ := H
    (try dsimp only at H)
    have A35 := Aside0.mk A350
    clear A350
    simp only [Option.some.injEq, Prod.mk.injEq] at H
    obtain ⟨rfl, rfl⟩ := H
    go_enter Try.func29, Try.ntmps29
    go_wp2_with (first | ((with_reducible refine gate_dst (N := 1) rfl ?_); refine box_event ?hg (N := 1) ?hd (cs := #[.int .i64 a0_0, .int .i64 a0_1]) (t := 24) ?hr ?_; (case hd => rfl); (case hg => rfl); (case hr => first | (go_simp; done) | (go_simp; rfl)); intro gb155 hg w36 hbox hb; have BK155 := Aside0.mk (hbox); have GW155 := hz_ hg HB; have GE155 := hz_ hg HB; replace HB := hs HB hb; clear hb hbox hg) | ((with_reducible refine gate_dst (N := 2) rfl ?_); refine box_event ?hg (N := 2) ?hd (cs := #[.int .i64 0, .int .i64 0]) (t := 24) ?hr ?_; (case hd => rfl); (case hg => rfl); (case hr => first | (go_simp; done) | (go_simp; rfl)); intro gb156 hg w37 hbox hb; have BK156 := Aside0.mk (hbox); have GW156 := bz' HB hg (by repeat first | (with_reducible exact HB.out) | refine bl1 ?_ | (with_reducible refine bset ?_ ‹_›) | exact HB.out); have GE156 := bz' HB hg (by repeat first | (with_reducible exact HB.out) | refine bl1 ?_ | (with_reducible refine bset ?_ ‹_›) | exact HB.out); have NB155_156 := nlk hg BK155; have NB156_155 := ngk hg BK155; replace BK155 := kb BK155 hb; replace HB := hs' HB (by repeat first | (with_reducible exact HB.out) | refine bl1 ?_ | (with_reducible refine bset ?_ ‹_›) | exact HB.out) hb; clear hb hbox hg; have hnb38 := NB155_156.out; have hnc38 := NB156_155.out; have hcz39_0 : w37.cell? ⟨gb155, 0, none⟩ = some (.int .i64 a0_0) := (blk_cell BK155.out 0).trans rfl; have hcz39_1 : w37.cell? ⟨gb155, 1, none⟩ = some (.int .i64 a0_1) := (blk_cell BK155.out 1).trans rfl; have hfz39_0 := blk_frozen BK155.out 0; have hfz39_1 := blk_frozen BK155.out 1) | ((with_reducible refine gate_callee (f := 33) rfl ?_); refine goesL_ (some 6) rfl rfl Try.func33 (by kernel_rfl) rfl #[.agg #[.int .i64 a0_0, .int .i64 a0_1]] rfl (by (try simp only [mp]); first | done | rfl | (simp only [ld]; rfl)) ?_; (with_reducible refine (ratio_Is.calls k a0_0 a0_1 true _ A2.out).mono ?_); rintro e w40 ⟨rfl, hb⟩; refine ⟨_, rfl, ?_⟩; replace BK155 := kb BK155 hb; replace BK156 := kb BK156 hb; replace HB := hs' HB (by repeat first | (with_reducible exact HB.out) | refine bl1 ?_ | (with_reducible refine bset ?_ ‹_›) | exact HB.out) hb; (try clear hb); (try clear hb2); (try clear hk); (try clear hi); have hcz41_0 : w40.cell? ⟨gb155, 0, none⟩ = some (.int .i64 a0_0) := (blk_cell BK155.out 0).trans rfl; have hcz41_1 : w40.cell? ⟨gb155, 1, none⟩ = some (.int .i64 a0_1) := (blk_cell BK155.out 1).trans rfl; have hfz41_0 := blk_frozen BK155.out 0; have hfz41_1 := blk_frozen BK155.out 1) | ((with_reducible refine gate_callee (f := 64) rfl ?_); refine goesL_ (some 13) rfl rfl Try.func64 (by kernel_rfl) rfl #[.int .i64 a0_0, .int .i64 a0_1] rfl (by (try simp only [mp]); first | done | rfl | (simp only [ld]; rfl)) ?_; (with_reducible refine (ratio_floor.calls a0_0 a0_1 t158 _ A4.out).mono ?_); rintro e w' ⟨rfl, ⟨nd, rfl⟩⟩; refine ⟨_, rfl, ?_⟩; skip) | ((with_reducible refine gate_callee (f := 20) rfl ?_); refine goesL_ (some 40) rfl rfl Try.func20 (by kernel_rfl) rfl #[.int .i64 t158, .int .i64 1] rfl (by (try simp only [mp]); first | done | rfl | (simp only [ld]; rfl)) ?_; (with_reducible refine (ratio_Make.calls k t158 1 t165 t166 _ A35.out).mono ?_); rintro e w42 ⟨rfl, hb⟩; refine ⟨_, rfl, ?_⟩; replace BK155 := kb BK155 hb; replace BK156 := kb BK156 hb; replace HB := hs' HB (by repeat first | (with_reducible exact HB.out) | refine bl1 ?_ | (with_reducible refine bset ?_ ‹_›) | exact HB.out) hb; (try clear hb); (try clear hb2); (try clear hk); (try clear hi); have hcz43_0 : w42.cell? ⟨gb156, 0, none⟩ = some (.int .i64 0) := (blk_cell BK156.out 0).trans rfl; have hcz43_1 : w42.cell? ⟨gb156, 1, none⟩ = some (.int .i64 0) := (blk_cell BK156.out 1).trans rfl; have hfz43_0 := blk_frozen BK156.out 0; have hfz43_1 := blk_frozen BK156.out 1))
    refine bodyPost_ret (results_cell_row rfl _ _ gb156 24 #[.int .i64 t165, .int .i64 t166] (0, 0) _ rfl (by refine bk ?_; refine blk_put (cs := #[.int .i64 t165, .int .i64 0]) ?_ 1 _ rfl; refine bk ?_; refine blk_put (cs := #[.int .i64 0, .int .i64 0]) ?_ 0 _ rfl; refine bk ?_; exact BK156.out) Try.underlying24 rfl (by kernel_rfl)) rfl ?_
    exact ⟨by first | rfl | (simp [errW_none, errW_some] <;> rfl) | (simp [*, errW_none, errW_some] <;> rfl), by repeat first | exact HB.out | refine bset ?_ ‹_› | apply below_alloc | apply pw_below_drewN | apply below_drew1⟩
 ·
  replace c3 := Bool.eq_false_iff.mpr c3
  subst c3
  rw [if_neg (show ¬ (false = true) by decide)] at H
  simp only [Option.some.injEq, Prod.mk.injEq] at H
  obtain ⟨rfl, rfl⟩ := H
  go_enter Try.func29, Try.ntmps29
  go_wp2_with (first | ((with_reducible refine gate_dst (N := 1) rfl ?_); refine box_event ?hg (N := 1) ?hd (cs := #[.int .i64 a0_0, .int .i64 a0_1]) (t := 24) ?hr ?_; (case hd => rfl); (case hg => rfl); (case hr => first | (go_simp; done) | (go_simp; rfl)); intro gb155 hg w44 hbox hb; have BK155 := Aside0.mk (hbox); have GW155 := hz_ hg HB; have GE155 := hz_ hg HB; replace HB := hs HB hb; clear hb hbox hg) | ((with_reducible refine gate_dst (N := 2) rfl ?_); refine box_event ?hg (N := 2) ?hd (cs := #[.int .i64 0, .int .i64 0]) (t := 24) ?hr ?_; (case hd => rfl); (case hg => rfl); (case hr => first | (go_simp; done) | (go_simp; rfl)); intro gb156 hg w45 hbox hb; have BK156 := Aside0.mk (hbox); have GW156 := bz' HB hg (by repeat first | (with_reducible exact HB.out) | refine bl1 ?_ | (with_reducible refine bset ?_ ‹_›) | exact HB.out); have GE156 := bz' HB hg (by repeat first | (with_reducible exact HB.out) | refine bl1 ?_ | (with_reducible refine bset ?_ ‹_›) | exact HB.out); have NB155_156 := nlk hg BK155; have NB156_155 := ngk hg BK155; replace BK155 := kb BK155 hb; replace HB := hs' HB (by repeat first | (with_reducible exact HB.out) | refine bl1 ?_ | (with_reducible refine bset ?_ ‹_›) | exact HB.out) hb; clear hb hbox hg; have hnb46 := NB155_156.out; have hnc46 := NB156_155.out; have hcz47_0 : w45.cell? ⟨gb155, 0, none⟩ = some (.int .i64 a0_0) := (blk_cell BK155.out 0).trans rfl; have hcz47_1 : w45.cell? ⟨gb155, 1, none⟩ = some (.int .i64 a0_1) := (blk_cell BK155.out 1).trans rfl; have hfz47_0 := blk_frozen BK155.out 0; have hfz47_1 := blk_frozen BK155.out 1) | ((with_reducible refine gate_callee (f := 33) rfl ?_); refine goesL_ (some 6) rfl rfl Try.func33 (by kernel_rfl) rfl #[.agg #[.int .i64 a0_0, .int .i64 a0_1]] rfl (by (try simp only [mp]); first | done | rfl | (simp only [ld]; rfl)) ?_; (with_reducible refine (ratio_Is.calls k a0_0 a0_1 false _ A2.out).mono ?_); rintro e w48 ⟨rfl, hb⟩; refine ⟨_, rfl, ?_⟩; replace BK155 := kb BK155 hb; replace BK156 := kb BK156 hb; replace HB := hs' HB (by repeat first | (with_reducible exact HB.out) | refine bl1 ?_ | (with_reducible refine bset ?_ ‹_›) | exact HB.out) hb; (try clear hb); (try clear hb2); (try clear hk); (try clear hi); have hcz49_0 : w48.cell? ⟨gb156, 0, none⟩ = some (.int .i64 0) := (blk_cell BK156.out 0).trans rfl; have hcz49_1 : w48.cell? ⟨gb156, 1, none⟩ = some (.int .i64 0) := (blk_cell BK156.out 1).trans rfl; have hfz49_0 := blk_frozen BK156.out 0; have hfz49_1 := blk_frozen BK156.out 1))
  refine bodyPost_ret (results_cell_row rfl _ _ gb156 24 #[.int .i64 0, .int .i64 0] (0, 0) _ rfl (by refine bk ?_; refine blk_put (cs := #[.int .i64 0, .int .i64 0]) ?_ 1 _ rfl; refine bk ?_; refine blk_put (cs := #[.int .i64 0, .int .i64 0]) ?_ 0 _ rfl; refine bk ?_; exact BK156.out) Try.underlying24 rfl (by kernel_rfl)) rfl ?_
  exact ⟨by first | rfl | (simp [errW_none, errW_some] <;> rfl) | (simp [*, errW_none, errW_some] <;> rfl), by repeat first | exact HB.out | refine bset ?_ ‹_› | apply below_alloc | apply pw_below_drewN | apply below_drew1⟩

/-! ### ratio_Neg: function 43 -/
def ratio_Neg.f (k : Nat) (a0_0 : Int) (a0_1 : Int) : Option (Int × Int) := (ratio_Is.f k a0_0 a0_1).bind fun t169 => (if t169 = true then (some (wrap64 (-a0_0), a0_1)) else (some (0, 0)))
theorem ratio_Neg.mono : ∀ a0 a1 k, LeO (ratio_Neg.f k a0 a1) (ratio_Neg.f (k + 1) a0 a1) := by
 intro a0 a1 k
 unfold ratio_Neg.f
 repeat' first
   | (with_reducible exact ratio_Is.mono _ _ _)
   | (with_reducible exact LeO.refl _)
   | (with_reducible exact LeO.none _)
   | (with_reducible refine LeO.ite ?_ ?_)
   | (with_reducible refine LeO.bind ?_ (fun _ => ?_))
   | exact ratio_Is.mono _ _ _
   | exact LeO.none _
   | refine LeO.ite ?_ ?_
   | refine LeO.bind ?_ (fun _ => ?_)
set_option maxHeartbeats 8000000 in
set_option maxRecDepth 100000 in
theorem ratio_Neg.calls (k : Nat) (a0_0 : Int) (a0_1 : Int) (r1 : Int) (r2 : Int) (w : World) (h : ratio_Neg.f k a0_0 a0_1 = some (r1, r2)) :
  Calls Try.prog 43 #[.agg #[.int .i64 a0_0, .int .i64 a0_1]] w fun e w' => e = .returned (.agg #[.int .i64 r1, .int .i64 r2]) ∧ Below w.heap.size w w' := by
 have hu24 := Try.underlying24
 have HB := Aside0.mk (Below.refl w.heap.size w)
 have H : ((ratio_Is.f k a0_0 a0_1).bind fun t169 => (if t169 = true then (some (wrap64 (-a0_0), a0_1)) else (some (0, 0)))) = some (r1, r2) := h
 clear h
 replace H := Option.bind_eq_some_iff.mp H
 obtain ⟨t169, A20, H⟩ := H
 (try dsimp only at H)
 have A2 := Aside0.mk A20
 clear A20
 by_cases c3 : t169 = true
 ·
  subst c3
  rw [if_pos rfl] at H
  simp only [Option.some.injEq, Prod.mk.injEq] at H
  obtain ⟨rfl, rfl⟩ := H
  go_enter Try.func43, Try.ntmps43
  go_wp2_with (first | ((with_reducible refine gate_dst (N := 1) rfl ?_); refine box_event ?hg (N := 1) ?hd (cs := #[.int .i64 a0_0, .int .i64 a0_1]) (t := 24) ?hr ?_; (case hd => rfl); (case hg => rfl); (case hr => first | (go_simp; done) | (go_simp; rfl)); intro gb167 hg w4 hbox hb; have BK167 := Aside0.mk (hbox); have GW167 := hz_ hg HB; have GE167 := hz_ hg HB; replace HB := hs HB hb; clear hb hbox hg) | ((with_reducible refine gate_dst (N := 2) rfl ?_); refine box_event ?hg (N := 2) ?hd (cs := #[.int .i64 0, .int .i64 0]) (t := 24) ?hr ?_; (case hd => rfl); (case hg => rfl); (case hr => first | (go_simp; done) | (go_simp; rfl)); intro gb168 hg w5 hbox hb; have BK168 := Aside0.mk (hbox); have GW168 := bz' HB hg (by repeat first | (with_reducible exact HB.out) | refine bl1 ?_ | (with_reducible refine bset ?_ ‹_›) | exact HB.out); have GE168 := bz' HB hg (by repeat first | (with_reducible exact HB.out) | refine bl1 ?_ | (with_reducible refine bset ?_ ‹_›) | exact HB.out); have NB167_168 := nlk hg BK167; have NB168_167 := ngk hg BK167; replace BK167 := kb BK167 hb; replace HB := hs' HB (by repeat first | (with_reducible exact HB.out) | refine bl1 ?_ | (with_reducible refine bset ?_ ‹_›) | exact HB.out) hb; clear hb hbox hg; have hnb6 := NB167_168.out; have hnc6 := NB168_167.out; have hcz7_0 : w5.cell? ⟨gb167, 0, none⟩ = some (.int .i64 a0_0) := (blk_cell BK167.out 0).trans rfl; have hcz7_1 : w5.cell? ⟨gb167, 1, none⟩ = some (.int .i64 a0_1) := (blk_cell BK167.out 1).trans rfl; have hfz7_0 := blk_frozen BK167.out 0; have hfz7_1 := blk_frozen BK167.out 1) | ((with_reducible refine gate_callee (f := 33) rfl ?_); refine goesL_ (some 4) rfl rfl Try.func33 (by kernel_rfl) rfl #[.agg #[.int .i64 a0_0, .int .i64 a0_1]] rfl (by (try simp only [mp]); first | done | rfl | (simp only [ld]; rfl)) ?_; (with_reducible refine (ratio_Is.calls k a0_0 a0_1 true _ A2.out).mono ?_); rintro e w8 ⟨rfl, hb⟩; refine ⟨_, rfl, ?_⟩; replace BK167 := kb BK167 hb; replace BK168 := kb BK168 hb; replace HB := hs' HB (by repeat first | (with_reducible exact HB.out) | refine bl1 ?_ | (with_reducible refine bset ?_ ‹_›) | exact HB.out) hb; (try clear hb); (try clear hb2); (try clear hk); (try clear hi); have hcz9_0 : w8.cell? ⟨gb167, 0, none⟩ = some (.int .i64 a0_0) := (blk_cell BK167.out 0).trans rfl; have hcz9_1 : w8.cell? ⟨gb167, 1, none⟩ = some (.int .i64 a0_1) := (blk_cell BK167.out 1).trans rfl; have hfz9_0 := blk_frozen BK167.out 0; have hfz9_1 := blk_frozen BK167.out 1; have hcz10_0 : w8.cell? ⟨gb168, 0, none⟩ = some (.int .i64 0) := (blk_cell BK168.out 0).trans rfl; have hcz10_1 : w8.cell? ⟨gb168, 1, none⟩ = some (.int .i64 0) := (blk_cell BK168.out 1).trans rfl; have hfz10_0 := blk_frozen BK168.out 0; have hfz10_1 := blk_frozen BK168.out 1))
  refine bodyPost_ret (results_cell_row rfl _ _ gb168 24 #[.int .i64 (wrap64 (-a0_0)), .int .i64 a0_1] (0, 0) _ rfl (by refine bk ?_; refine blk_put (cs := #[.int .i64 (wrap64 (-a0_0)), .int .i64 0]) ?_ 1 _ rfl; refine bk ?_; refine blk_put (cs := #[.int .i64 0, .int .i64 0]) ?_ 0 _ rfl; refine bk ?_; exact BK168.out) Try.underlying24 rfl (by kernel_rfl)) rfl ?_
  exact ⟨by first | rfl | (simp [errW_none, errW_some] <;> rfl) | (simp [*, errW_none, errW_some] <;> rfl), by repeat first | exact HB.out | refine bset ?_ ‹_› | apply below_alloc | apply pw_below_drewN | apply below_drew1⟩
 ·
  replace c3 := Bool.eq_false_iff.mpr c3
  subst c3
  rw [if_neg (show ¬ (false = true) by decide)] at H
  simp only [Option.some.injEq, Prod.mk.injEq] at H
  obtain ⟨rfl, rfl⟩ := H
  go_enter Try.func43, Try.ntmps43
  go_wp2_with (first | ((with_reducible refine gate_dst (N := 1) rfl ?_); refine box_event ?hg (N := 1) ?hd (cs := #[.int .i64 a0_0, .int .i64 a0_1]) (t := 24) ?hr ?_; (case hd => rfl); (case hg => rfl); (case hr => first | (go_simp; done) | (go_simp; rfl)); intro gb167 hg w11 hbox hb; have BK167 := Aside0.mk (hbox); have GW167 := hz_ hg HB; have GE167 := hz_ hg HB; replace HB := hs HB hb; clear hb hbox hg) | ((with_reducible refine gate_dst (N := 2) rfl ?_); refine box_event ?hg (N := 2) ?hd (cs := #[.int .i64 0, .int .i64 0]) (t := 24) ?hr ?_; (case hd => rfl); (case hg => rfl); (case hr => first | (go_simp; done) | (go_simp; rfl)); intro gb168 hg w12 hbox hb; have BK168 := Aside0.mk (hbox); have GW168 := bz' HB hg (by repeat first | (with_reducible exact HB.out) | refine bl1 ?_ | (with_reducible refine bset ?_ ‹_›) | exact HB.out); have GE168 := bz' HB hg (by repeat first | (with_reducible exact HB.out) | refine bl1 ?_ | (with_reducible refine bset ?_ ‹_›) | exact HB.out); have NB167_168 := nlk hg BK167; have NB168_167 := ngk hg BK167; replace BK167 := kb BK167 hb; replace HB := hs' HB (by repeat first | (with_reducible exact HB.out) | refine bl1 ?_ | (with_reducible refine bset ?_ ‹_›) | exact HB.out) hb; clear hb hbox hg; have hnb13 := NB167_168.out; have hnc13 := NB168_167.out; have hcz14_0 : w12.cell? ⟨gb167, 0, none⟩ = some (.int .i64 a0_0) := (blk_cell BK167.out 0).trans rfl; have hcz14_1 : w12.cell? ⟨gb167, 1, none⟩ = some (.int .i64 a0_1) := (blk_cell BK167.out 1).trans rfl; have hfz14_0 := blk_frozen BK167.out 0; have hfz14_1 := blk_frozen BK167.out 1) | ((with_reducible refine gate_callee (f := 33) rfl ?_); refine goesL_ (some 4) rfl rfl Try.func33 (by kernel_rfl) rfl #[.agg #[.int .i64 a0_0, .int .i64 a0_1]] rfl (by (try simp only [mp]); first | done | rfl | (simp only [ld]; rfl)) ?_; (with_reducible refine (ratio_Is.calls k a0_0 a0_1 false _ A2.out).mono ?_); rintro e w15 ⟨rfl, hb⟩; refine ⟨_, rfl, ?_⟩; replace BK167 := kb BK167 hb; replace BK168 := kb BK168 hb; replace HB := hs' HB (by repeat first | (with_reducible exact HB.out) | refine bl1 ?_ | (with_reducible refine bset ?_ ‹_›) | exact HB.out) hb; (try clear hb); (try clear hb2); (try clear hk); (try clear hi); have hcz16_0 : w15.cell? ⟨gb168, 0, none⟩ = some (.int .i64 0) := (blk_cell BK168.out 0).trans rfl; have hcz16_1 : w15.cell? ⟨gb168, 1, none⟩ = some (.int .i64 0) := (blk_cell BK168.out 1).trans rfl; have hfz16_0 := blk_frozen BK168.out 0; have hfz16_1 := blk_frozen BK168.out 1))
  refine bodyPost_ret (results_cell_row rfl _ _ gb168 24 #[.int .i64 0, .int .i64 0] (0, 0) _ rfl (by refine bk ?_; refine blk_put (cs := #[.int .i64 0, .int .i64 0]) ?_ 1 _ rfl; refine bk ?_; refine blk_put (cs := #[.int .i64 0, .int .i64 0]) ?_ 0 _ rfl; refine bk ?_; exact BK168.out) Try.underlying24 rfl (by kernel_rfl)) rfl ?_
  exact ⟨by first | rfl | (simp [errW_none, errW_some] <;> rfl) | (simp [*, errW_none, errW_some] <;> rfl), by repeat first | exact HB.out | refine bset ?_ ‹_› | apply below_alloc | apply pw_below_drewN | apply below_drew1⟩

/-! ### ratio_Sub: function 32 -/
def ratio_Sub.f (k : Nat) (a0_0 : Int) (a0_1 : Int) (a1_0 : Int) (a1_1 : Int) : Option (Int × Int) := (ratio_Neg.f k a1_0 a1_1).bind fun bt173 => ((ratio_Add.f k a0_0 a0_1 bt173.1 bt173.2).bind fun bt175 => (some (bt175.1, bt175.2)))
theorem ratio_Sub.mono : ∀ a0 a1 a2 a3 k, LeO (ratio_Sub.f k a0 a1 a2 a3) (ratio_Sub.f (k + 1) a0 a1 a2 a3) := by
 intro a0 a1 a2 a3 k
 unfold ratio_Sub.f
 repeat' first
   | (with_reducible exact ratio_Add.mono _ _ _ _ _)
   | (with_reducible exact ratio_Neg.mono _ _ _)
   | (with_reducible exact LeO.refl _)
   | (with_reducible exact LeO.none _)
   | (with_reducible refine LeO.ite ?_ ?_)
   | (with_reducible refine LeO.bind ?_ (fun _ => ?_))
   | exact ratio_Add.mono _ _ _ _ _
   | exact ratio_Neg.mono _ _ _
   | exact LeO.none _
   | refine LeO.ite ?_ ?_
   | refine LeO.bind ?_ (fun _ => ?_)
set_option maxHeartbeats 8000000 in
set_option maxRecDepth 100000 in
theorem ratio_Sub.calls (k : Nat) (a0_0 : Int) (a0_1 : Int) (a1_0 : Int) (a1_1 : Int) (r1 : Int) (r2 : Int) (w : World) (h : ratio_Sub.f k a0_0 a0_1 a1_0 a1_1 = some (r1, r2)) :
  Calls Try.prog 32 #[.agg #[.int .i64 a0_0, .int .i64 a0_1], .agg #[.int .i64 a1_0, .int .i64 a1_1]] w fun e w' => e = .returned (.agg #[.int .i64 r1, .int .i64 r2]) ∧ Below w.heap.size w w' := by
 have hu24 := Try.underlying24
 have HB := Aside0.mk (Below.refl w.heap.size w)
 have H : ((ratio_Neg.f k a1_0 a1_1).bind fun bt173 => ((ratio_Add.f k a0_0 a0_1 bt173.1 bt173.2).bind fun bt175 => (some (bt175.1, bt175.2)))) = some (r1, r2) := h
 clear h
 replace H := Option.bind_eq_some_iff.mp H
 obtain ⟨⟨t173, t174⟩, A30, H⟩ := H
 (try dsimp only at H)
 have A3 := Aside0.mk A30
 clear A30
 replace H := Option.bind_eq_some_iff.mp H
 obtain ⟨⟨t175, t176⟩, A40, H⟩ := H
 (try dsimp only at H)
 have A4 := Aside0.mk A40
 clear A40
 simp only [Option.some.injEq, Prod.mk.injEq] at H
 obtain ⟨rfl, rfl⟩ := H
 go_enter Try.func32, Try.ntmps32
 try go_wp2_with (first | ((with_reducible refine gate_dst (N := 2) rfl ?_); refine box_event ?hg (N := 2) ?hd (cs := #[.int .i64 a0_0, .int .i64 a0_1]) (t := 24) ?hr ?_; (case hd => rfl); (case hg => rfl); (case hr => first | (go_simp; done) | (go_simp; rfl)); intro gb170 hg w5 hbox hb; have BK170 := Aside0.mk (hbox); have GW170 := hz_ hg HB; have GE170 := hz_ hg HB; replace HB := hs HB hb; clear hb hbox hg) | ((with_reducible refine gate_dst (N := 3) rfl ?_); refine box_event ?hg (N := 3) ?hd (cs := #[.int .i64 a1_0, .int .i64 a1_1]) (t := 24) ?hr ?_; (case hd => rfl); (case hg => rfl); (case hr => first | (go_simp; done) | (go_simp; rfl)); intro gb171 hg w6 hbox hb; have BK171 := Aside0.mk (hbox); have GW171 := bz' HB hg (by repeat first | (with_reducible exact HB.out) | refine bl1 ?_ | (with_reducible refine bset ?_ ‹_›) | exact HB.out); have GE171 := bz' HB hg (by repeat first | (with_reducible exact HB.out) | refine bl1 ?_ | (with_reducible refine bset ?_ ‹_›) | exact HB.out); have NB170_171 := nlk hg BK170; have NB171_170 := ngk hg BK170; replace BK170 := kb BK170 hb; replace HB := hs' HB (by repeat first | (with_reducible exact HB.out) | refine bl1 ?_ | (with_reducible refine bset ?_ ‹_›) | exact HB.out) hb; clear hb hbox hg) | ((with_reducible refine gate_dst (N := 4) rfl ?_); refine box_event ?hg (N := 4) ?hd (cs := #[.int .i64 0, .int .i64 0]) (t := 24) ?hr ?_; (case hd => rfl); (case hg => rfl); (case hr => first | (go_simp; done) | (go_simp; rfl)); intro gb172 hg w7 hbox hb; have BK172 := Aside0.mk (hbox); have GW172 := bz' HB hg (by repeat first | (with_reducible exact HB.out) | refine bl1 ?_ | (with_reducible refine bset ?_ ‹_›) | exact HB.out); have GE172 := bz' HB hg (by repeat first | (with_reducible exact HB.out) | refine bl1 ?_ | (with_reducible refine bset ?_ ‹_›) | exact HB.out); have NB170_172 := nlk hg BK170; have NB172_170 := ngk hg BK170; have NB171_172 := nlk hg BK171; have NB172_171 := ngk hg BK171; replace BK170 := kb BK170 hb; replace BK171 := kb BK171 hb; replace HB := hs' HB (by repeat first | (with_reducible exact HB.out) | refine bl1 ?_ | (with_reducible refine bset ?_ ‹_›) | exact HB.out) hb; clear hb hbox hg))
 replace BK170 := kd BK170
 replace BK171 := kd BK171
 replace BK172 := kd BK172
 replace HB := Aside0.mk (below_drew1 HB.out)
 refine start_ (n := 5) (S := fun w' => w'.cell? ⟨gb170, 0, none⟩ = some (.int .i64 a0_0) ∧ w'.cell? ⟨gb170, 1, none⟩ = some (.int .i64 a0_1) ∧ w'.cell? ⟨gb171, 0, none⟩ = some (.int .i64 a1_0) ∧ w'.cell? ⟨gb171, 1, none⟩ = some (.int .i64 a1_1)) (ds := []) #[false, false, false, false, false] (by kernel_rfl) rfl rfl ⟨(blk_cell BK170.out 0).trans rfl, (blk_cell BK170.out 1).trans rfl, (blk_cell BK171.out 0).trans rfl, (blk_cell BK171.out 1).trans rfl⟩ (fun hHeld => ?_)
 generalize w7.drew = w8 at BK170 BK171 BK172 HB hHeld ⊢
 refine take_ (i := 0) (N := some 5) (v := ?_) (a' := ?_) #[true, false, false, false, false] rfl rfl (by kernel_rfl) (fun _ _ _ h => h) (Or.inl ⟨by rfl, ?_⟩) hHeld ?_ ?_
 rotate_left
 ·
  rintro w' ⟨s0, s1, s2, s3⟩
  go_simp; with_reducible rfl
 rotate_left
 ·
  simp only [ap]
  rfl
 refine take_ (i := 1) (N := some 6) (v := ?_) (a' := ?_) #[true, true, false, false, false] rfl rfl (by kernel_rfl) (fun _ _ _ h => h) (Or.inl ⟨by rfl, ?_⟩) hHeld ?_ ?_
 rotate_left
 ·
  rintro w' ⟨s0, s1, s2, s3⟩
  go_simp; with_reducible rfl
 rotate_left
 ·
  simp only [ap]
  rfl
 refine one_ (i := 2) (N := some 7) #[true, true, true, false, false] rfl rfl (by kernel_rfl) (by decide) (fun K hK => ?_)
 refine goes_ Try.func43 (by kernel_rfl) rfl #[.agg #[.int .i64 a1_0, .int .i64 a1_1]] (by rfl) rfl rfl (by (try simp only [mp]); first | done | rfl | (simp only [ld]; rfl)) ?_
 with_reducible refine (ratio_Neg.calls k a1_0 a1_1 t173 t174 _ A3.out).mono ?_
 rintro e w9 ⟨rfl, hb⟩
 refine ⟨_, rfl, ?_⟩
 replace BK170 := kb BK170 hb
 replace BK171 := kb BK171 hb
 replace BK172 := kb BK172 hb
 replace HB := hs' HB (by repeat first | (with_reducible exact HB.out) | refine bl1 ?_ | (with_reducible refine bset ?_ ‹_›) | exact HB.out) hb
 (try clear hb); (try clear hb2); (try clear hk); (try clear hi)
 refine hK.out _ _ ⟨(blk_cell BK170.out 0).trans rfl, (blk_cell BK170.out 1).trans rfl, (blk_cell BK171.out 0).trans rfl, (blk_cell BK171.out 1).trans rfl⟩ (fun hHeld => ?_)
 clear hK K
 refine norm_ (a' := ?_) ?_ ?_
 rotate_left
 ·
  show Act.put _ (some 7) _ = _
  simp only [ap]; rfl
 refine one_ (i := 3) (N := some 8) #[true, true, true, true, false] rfl rfl (by kernel_rfl) (by decide) (fun K hK => ?_)
 refine goes_ Try.func12 (by kernel_rfl) rfl #[.agg #[.int .i64 a0_0, .int .i64 a0_1], .agg #[.int .i64 t173, .int .i64 t174]] (by rfl) rfl rfl (by (try simp only [mp]); first | done | rfl | (simp only [ld]; rfl)) ?_
 with_reducible refine (ratio_Add.calls k a0_0 a0_1 t173 t174 t175 t176 _ A4.out).mono ?_
 rintro e w10 ⟨rfl, hb⟩
 refine ⟨_, rfl, ?_⟩
 replace BK170 := kb BK170 hb
 replace BK171 := kb BK171 hb
 replace BK172 := kb BK172 hb
 replace HB := hs' HB (by repeat first | (with_reducible exact HB.out) | refine bl1 ?_ | (with_reducible refine bset ?_ ‹_›) | exact HB.out) hb
 (try clear hb); (try clear hb2); (try clear hk); (try clear hi)
 refine hK.out _ _ ⟨(blk_cell BK170.out 0).trans rfl, (blk_cell BK170.out 1).trans rfl, (blk_cell BK171.out 0).trans rfl, (blk_cell BK171.out 1).trans rfl⟩ (fun hHeld => ?_)
 clear hK K
 refine norm_ (a' := ?_) ?_ ?_
 rotate_left
 ·
  show Act.put _ (some 8) _ = _
  simp only [ap]; rfl
 refine one_ (i := 4) (N := none) #[true, true, true, true, true] rfl rfl (by kernel_rfl) (by decide) (fun K hK => ?_)
 have hs11 : w10.cell? ⟨gb172, 0, none⟩ = some (.int .i64 0) := (blk_cell BK172.out 0).trans rfl
 have hfs11 := blk_frozen BK172.out 0
 have hns11_0 := NB170_172.out
 have hns11_1 := NB171_172.out
 have hms11_0 := NB172_170.out
 have hms11_1 := NB172_171.out
 have hs12 : w10.cell? ⟨gb172, 1, none⟩ = some (.int .i64 0) := (blk_cell BK172.out 1).trans rfl
 have hfs12 := blk_frozen BK172.out 1
 have hns12_0 := NB170_172.out
 have hns12_1 := NB171_172.out
 have hms12_0 := NB172_170.out
 have hms12_1 := NB172_171.out
 refine skip_ (w1 := ?_) (by rfl) rfl ?_ ?_
 rotate_left
 ·
  go_simp
  rfl
 refine hK.out _ _ ⟨((cell_far (p := ⟨gb172, _, none⟩) NB170_172.out _).trans (((cell_far (p := ⟨gb172, _, none⟩) NB170_172.out _).trans (hHeld.1)))), ((cell_far (p := ⟨gb172, _, none⟩) NB170_172.out _).trans (((cell_far (p := ⟨gb172, _, none⟩) NB170_172.out _).trans (hHeld.2.1)))), ((cell_far (p := ⟨gb172, _, none⟩) NB171_172.out _).trans (((cell_far (p := ⟨gb172, _, none⟩) NB171_172.out _).trans (hHeld.2.2.1)))), ((cell_far (p := ⟨gb172, _, none⟩) NB171_172.out _).trans (((cell_far (p := ⟨gb172, _, none⟩) NB171_172.out _).trans (hHeld.2.2.2))))⟩ (fun hHeld => ?_)
 clear hK K
 refine done_ (by kernel_rfl) ?_
 try go_wp2
 refine bodyPost_ret (results_cell_row rfl _ _ gb172 24 #[.int .i64 t175, .int .i64 t176] (0, 0) _ rfl (by refine bk ?_; refine blk_put (cs := #[.int .i64 t175, .int .i64 0]) ?_ 1 _ rfl; refine bk ?_; refine blk_put (cs := #[.int .i64 0, .int .i64 0]) ?_ 0 _ rfl; refine bk ?_; exact BK172.out) Try.underlying24 rfl (by kernel_rfl)) rfl ?_
 exact ⟨by first | rfl | (simp [errW_none, errW_some] <;> rfl) | (simp [*, errW_none, errW_some] <;> rfl), by repeat first | exact HB.out | refine bset ?_ ‹_› | apply below_alloc | apply pw_below_drewN | apply below_drew1⟩

/-! ### ratio_Frac: function 30 -/
def ratio_Frac.f (k : Nat) (a0_0 : Int) (a0_1 : Int) : Option (Int × Int) := (ratio_Floor.f k a0_0 a0_1).bind fun bt179 => ((ratio_Sub.f k a0_0 a0_1 bt179.1 bt179.2).bind fun bt181 => (some (bt181.1, bt181.2)))
theorem ratio_Frac.mono : ∀ a0 a1 k, LeO (ratio_Frac.f k a0 a1) (ratio_Frac.f (k + 1) a0 a1) := by
 intro a0 a1 k
 unfold ratio_Frac.f
 repeat' first
   | (with_reducible exact ratio_Floor.mono _ _ _)
   | (with_reducible exact ratio_Sub.mono _ _ _ _ _)
   | (with_reducible exact LeO.refl _)
   | (with_reducible exact LeO.none _)
   | (with_reducible refine LeO.ite ?_ ?_)
   | (with_reducible refine LeO.bind ?_ (fun _ => ?_))
   | exact ratio_Floor.mono _ _ _
   | exact ratio_Sub.mono _ _ _ _ _
   | exact LeO.none _
   | refine LeO.ite ?_ ?_
   | refine LeO.bind ?_ (fun _ => ?_)
set_option maxHeartbeats 8000000 in
set_option maxRecDepth 100000 in
theorem ratio_Frac.calls (k : Nat) (a0_0 : Int) (a0_1 : Int) (r1 : Int) (r2 : Int) (w : World) (h : ratio_Frac.f k a0_0 a0_1 = some (r1, r2)) :
  Calls Try.prog 30 #[.agg #[.int .i64 a0_0, .int .i64 a0_1]] w fun e w' => e = .returned (.agg #[.int .i64 r1, .int .i64 r2]) ∧ Below w.heap.size w w' := by
 have hu24 := Try.underlying24
 have HB := Aside0.mk (Below.refl w.heap.size w)
 have H : ((ratio_Floor.f k a0_0 a0_1).bind fun bt179 => ((ratio_Sub.f k a0_0 a0_1 bt179.1 bt179.2).bind fun bt181 => (some (bt181.1, bt181.2)))) = some (r1, r2) := h
 clear h
 replace H := Option.bind_eq_some_iff.mp H
 obtain ⟨⟨t179, t180⟩, A20, H⟩ := H
 (try dsimp only at H)
 have A2 := Aside0.mk A20
 clear A20
 replace H := Option.bind_eq_some_iff.mp H
 obtain ⟨⟨t181, t182⟩, A30, H⟩ := H
 (try dsimp only at H)
 have A3 := Aside0.mk A30
 clear A30
 simp only [Option.some.injEq, Prod.mk.injEq] at H
 obtain ⟨rfl, rfl⟩ := H
 go_enter Try.func30, Try.ntmps30
 try go_wp2_with (first | ((with_reducible refine gate_dst (N := 1) rfl ?_); refine box_event ?hg (N := 1) ?hd (cs := #[.int .i64 a0_0, .int .i64 a0_1]) (t := 24) ?hr ?_; (case hd => rfl); (case hg => rfl); (case hr => first | (go_simp; done) | (go_simp; rfl)); intro gb177 hg w4 hbox hb; have BK177 := Aside0.mk (hbox); have GW177 := hz_ hg HB; have GE177 := hz_ hg HB; replace HB := hs HB hb; clear hb hbox hg) | ((with_reducible refine gate_dst (N := 2) rfl ?_); refine box_event ?hg (N := 2) ?hd (cs := #[.int .i64 0, .int .i64 0]) (t := 24) ?hr ?_; (case hd => rfl); (case hg => rfl); (case hr => first | (go_simp; done) | (go_simp; rfl)); intro gb178 hg w5 hbox hb; have BK178 := Aside0.mk (hbox); have GW178 := bz' HB hg (by repeat first | (with_reducible exact HB.out) | refine bl1 ?_ | (with_reducible refine bset ?_ ‹_›) | exact HB.out); have GE178 := bz' HB hg (by repeat first | (with_reducible exact HB.out) | refine bl1 ?_ | (with_reducible refine bset ?_ ‹_›) | exact HB.out); have NB177_178 := nlk hg BK177; have NB178_177 := ngk hg BK177; replace BK177 := kb BK177 hb; replace HB := hs' HB (by repeat first | (with_reducible exact HB.out) | refine bl1 ?_ | (with_reducible refine bset ?_ ‹_›) | exact HB.out) hb; clear hb hbox hg))
 replace BK177 := kd BK177
 replace BK178 := kd BK178
 replace HB := Aside0.mk (below_drew1 HB.out)
 refine start_ (n := 5) (S := fun w' => w'.cell? ⟨gb177, 0, none⟩ = some (.int .i64 a0_0) ∧ w'.cell? ⟨gb177, 1, none⟩ = some (.int .i64 a0_1)) (ds := []) #[false, false, false, false, false] (by kernel_rfl) rfl rfl ⟨(blk_cell BK177.out 0).trans rfl, (blk_cell BK177.out 1).trans rfl⟩ (fun hHeld => ?_)
 generalize w5.drew = w6 at BK177 BK178 HB hHeld ⊢
 refine take_ (i := 0) (N := some 3) (v := ?_) (a' := ?_) #[true, false, false, false, false] rfl rfl (by kernel_rfl) (fun _ _ _ h => h) (Or.inl ⟨by rfl, ?_⟩) hHeld ?_ ?_
 rotate_left
 ·
  rintro w' ⟨s0, s1⟩
  go_simp; with_reducible rfl
 rotate_left
 ·
  simp only [ap]
  rfl
 refine take_ (i := 1) (N := some 4) (v := ?_) (a' := ?_) #[true, true, false, false, false] rfl rfl (by kernel_rfl) (fun _ _ _ h => h) (Or.inl ⟨by rfl, ?_⟩) hHeld ?_ ?_
 rotate_left
 ·
  rintro w' ⟨s0, s1⟩
  go_simp; with_reducible rfl
 rotate_left
 ·
  simp only [ap]
  rfl
 refine one_ (i := 2) (N := some 5) #[true, true, true, false, false] rfl rfl (by kernel_rfl) (by decide) (fun K hK => ?_)
 refine goes_ Try.func28 (by kernel_rfl) rfl #[.agg #[.int .i64 a0_0, .int .i64 a0_1]] (by rfl) rfl rfl (by (try simp only [mp]); first | done | rfl | (simp only [ld]; rfl)) ?_
 with_reducible refine (ratio_Floor.calls k a0_0 a0_1 t179 t180 _ A2.out).mono ?_
 rintro e w7 ⟨rfl, hb⟩
 refine ⟨_, rfl, ?_⟩
 replace BK177 := kb BK177 hb
 replace BK178 := kb BK178 hb
 replace HB := hs' HB (by repeat first | (with_reducible exact HB.out) | refine bl1 ?_ | (with_reducible refine bset ?_ ‹_›) | exact HB.out) hb
 (try clear hb); (try clear hb2); (try clear hk); (try clear hi)
 refine hK.out _ _ ⟨(blk_cell BK177.out 0).trans rfl, (blk_cell BK177.out 1).trans rfl⟩ (fun hHeld => ?_)
 clear hK K
 refine norm_ (a' := ?_) ?_ ?_
 rotate_left
 ·
  show Act.put _ (some 5) _ = _
  simp only [ap]; rfl
 refine one_ (i := 3) (N := some 6) #[true, true, true, true, false] rfl rfl (by kernel_rfl) (by decide) (fun K hK => ?_)
 refine goes_ Try.func32 (by kernel_rfl) rfl #[.agg #[.int .i64 a0_0, .int .i64 a0_1], .agg #[.int .i64 t179, .int .i64 t180]] (by rfl) rfl rfl (by (try simp only [mp]); first | done | rfl | (simp only [ld]; rfl)) ?_
 with_reducible refine (ratio_Sub.calls k a0_0 a0_1 t179 t180 t181 t182 _ A3.out).mono ?_
 rintro e w8 ⟨rfl, hb⟩
 refine ⟨_, rfl, ?_⟩
 replace BK177 := kb BK177 hb
 replace BK178 := kb BK178 hb
 replace HB := hs' HB (by repeat first | (with_reducible exact HB.out) | refine bl1 ?_ | (with_reducible refine bset ?_ ‹_›) | exact HB.out) hb
 (try clear hb); (try clear hb2); (try clear hk); (try clear hi)
 refine hK.out _ _ ⟨(blk_cell BK177.out 0).trans rfl, (blk_cell BK177.out 1).trans rfl⟩ (fun hHeld => ?_)
 clear hK K
 refine norm_ (a' := ?_) ?_ ?_
 rotate_left
 ·
  show Act.put _ (some 6) _ = _
  simp only [ap]; rfl
 refine one_ (i := 4) (N := none) #[true, true, true, true, true] rfl rfl (by kernel_rfl) (by decide) (fun K hK => ?_)
 have hs9 : w8.cell? ⟨gb178, 0, none⟩ = some (.int .i64 0) := (blk_cell BK178.out 0).trans rfl
 have hfs9 := blk_frozen BK178.out 0
 have hns9_0 := NB177_178.out
 have hms9_0 := NB178_177.out
 have hs10 : w8.cell? ⟨gb178, 1, none⟩ = some (.int .i64 0) := (blk_cell BK178.out 1).trans rfl
 have hfs10 := blk_frozen BK178.out 1
 have hns10_0 := NB177_178.out
 have hms10_0 := NB178_177.out
 refine skip_ (w1 := ?_) (by rfl) rfl ?_ ?_
 rotate_left
 ·
  go_simp
  rfl
 refine hK.out _ _ ⟨((cell_far (p := ⟨gb178, _, none⟩) NB177_178.out _).trans (((cell_far (p := ⟨gb178, _, none⟩) NB177_178.out _).trans (hHeld.1)))), ((cell_far (p := ⟨gb178, _, none⟩) NB177_178.out _).trans (((cell_far (p := ⟨gb178, _, none⟩) NB177_178.out _).trans (hHeld.2))))⟩ (fun hHeld => ?_)
 clear hK K
 refine done_ (by kernel_rfl) ?_
 try go_wp2
 refine bodyPost_ret (results_cell_row rfl _ _ gb178 24 #[.int .i64 t181, .int .i64 t182] (0, 0) _ rfl (by refine bk ?_; refine blk_put (cs := #[.int .i64 t181, .int .i64 0]) ?_ 1 _ rfl; refine bk ?_; refine blk_put (cs := #[.int .i64 0, .int .i64 0]) ?_ 0 _ rfl; refine bk ?_; exact BK178.out) Try.underlying24 rfl (by kernel_rfl)) rfl ?_
 exact ⟨by first | rfl | (simp [errW_none, errW_some] <;> rfl) | (simp [*, errW_none, errW_some] <;> rfl), by repeat first | exact HB.out | refine bset ?_ ‹_› | apply below_alloc | apply pw_below_drewN | apply below_drew1⟩

/-! ### ratio_Abs: function 31 -/
def ratio_Abs.f (k : Nat) (a0_0 : Int) (a0_1 : Int) : Option (Int × Int) := if a0_0 < 0 then ((ratio_Neg.f k a0_0 a0_1).bind fun bt185 => (some (bt185.1, bt185.2))) else ((ratio_Neg.f k a0_0 a0_1).bind fun bt187 => ((ratio_Neg.f k bt187.1 bt187.2).bind fun bt189 => (some (bt189.1, bt189.2))))
theorem ratio_Abs.mono : ∀ a0 a1 k, LeO (ratio_Abs.f k a0 a1) (ratio_Abs.f (k + 1) a0 a1) := by
 intro a0 a1 k
 unfold ratio_Abs.f
 repeat' first
   | (with_reducible exact ratio_Neg.mono _ _ _)
   | (with_reducible exact LeO.refl _)
   | (with_reducible exact LeO.none _)
   | (with_reducible refine LeO.ite ?_ ?_)
   | (with_reducible refine LeO.bind ?_ (fun _ => ?_))
   | exact ratio_Neg.mono _ _ _
   | exact LeO.none _
   | refine LeO.ite ?_ ?_
   | refine LeO.bind ?_ (fun _ => ?_)
set_option maxHeartbeats 8000000 in
set_option maxRecDepth 100000 in
theorem ratio_Abs.calls (k : Nat) (a0_0 : Int) (a0_1 : Int) (r1 : Int) (r2 : Int) (w : World) (h : ratio_Abs.f k a0_0 a0_1 = some (r1, r2)) :
  Calls Try.prog 31 #[.agg #[.int .i64 a0_0, .int .i64 a0_1]] w fun e w' => e = .returned (.agg #[.int .i64 r1, .int .i64 r2]) ∧ Below w.heap.size w w' := by
 have hu24 := Try.underlying24
 have HB := Aside0.mk (Below.refl w.heap.size w)
 have H : (if a0_0 < 0 then ((ratio_Neg.f k a0_0 a0_1).bind fun bt185 => (some (bt185.1, bt185.2))) else ((ratio_Neg.f k a0_0 a0_1).bind fun bt187 => ((ratio_Neg.f k bt187.1 bt187.2).bind fun bt189 => (some (bt189.1, bt189.2))))) = some (r1, r2) := h
 clear h
 by_cases c2 : a0_0 < 0
 ·
  rw [if_pos c2] at H
  have c2b0 : decide (a0_0 < 0) = true := decide_eq_true c2
  clear c2
  replace H := Option.bind_eq_some_iff.mp H
  obtain ⟨⟨t185, t186⟩, A30, H⟩ := H
  (try dsimp only at H)
  have A3 := Aside0.mk A30
  clear A30
  simp only [Option.some.injEq, Prod.mk.injEq] at H
  obtain ⟨rfl, rfl⟩ := H
  go_enter Try.func31, Try.ntmps31
  go_wp2_with (first | ((with_reducible refine gate_dst (N := 1) rfl ?_); refine box_event ?hg (N := 1) ?hd (cs := #[.int .i64 a0_0, .int .i64 a0_1]) (t := 24) ?hr ?_; (case hd => rfl); (case hg => rfl); (case hr => first | (go_simp; done) | (go_simp; rfl)); intro gb183 hg w4 hbox hb; have BK183 := Aside0.mk (hbox); have GW183 := hz_ hg HB; have GE183 := hz_ hg HB; replace HB := hs HB hb; clear hb hbox hg) | ((with_reducible refine gate_dst (N := 2) rfl ?_); refine box_event ?hg (N := 2) ?hd (cs := #[.int .i64 0, .int .i64 0]) (t := 24) ?hr ?_; (case hd => rfl); (case hg => rfl); (case hr => first | (go_simp; done) | (go_simp; rfl)); intro gb184 hg w5 hbox hb; have BK184 := Aside0.mk (hbox); have GW184 := bz' HB hg (by repeat first | (with_reducible exact HB.out) | refine bl1 ?_ | (with_reducible refine bset ?_ ‹_›) | exact HB.out); have GE184 := bz' HB hg (by repeat first | (with_reducible exact HB.out) | refine bl1 ?_ | (with_reducible refine bset ?_ ‹_›) | exact HB.out); have NB183_184 := nlk hg BK183; have NB184_183 := ngk hg BK183; replace BK183 := kb BK183 hb; replace HB := hs' HB (by repeat first | (with_reducible exact HB.out) | refine bl1 ?_ | (with_reducible refine bset ?_ ‹_›) | exact HB.out) hb; clear hb hbox hg; have hnb6 := NB183_184.out; have hnc6 := NB184_183.out; have hcz7_0 : w5.cell? ⟨gb183, 0, none⟩ = some (.int .i64 a0_0) := (blk_cell BK183.out 0).trans rfl; have hcz7_1 : w5.cell? ⟨gb183, 1, none⟩ = some (.int .i64 a0_1) := (blk_cell BK183.out 1).trans rfl; have hfz7_0 := blk_frozen BK183.out 0; have hfz7_1 := blk_frozen BK183.out 1) | ((with_reducible refine gate_callee (f := 43) rfl ?_); refine goesL_ (some 7) rfl rfl Try.func43 (by kernel_rfl) rfl #[.agg #[.int .i64 a0_0, .int .i64 a0_1]] rfl (by (try simp only [mp]); first | done | rfl | (simp only [ld]; rfl)) ?_; (with_reducible refine (ratio_Neg.calls k a0_0 a0_1 t185 t186 _ A3.out).mono ?_); rintro e w8 ⟨rfl, hb⟩; refine ⟨_, rfl, ?_⟩; replace BK183 := kb BK183 hb; replace BK184 := kb BK184 hb; replace HB := hs' HB (by repeat first | (with_reducible exact HB.out) | refine bl1 ?_ | (with_reducible refine bset ?_ ‹_›) | exact HB.out) hb; (try clear hb); (try clear hb2); (try clear hk); (try clear hi); have hcz9_0 : w8.cell? ⟨gb184, 0, none⟩ = some (.int .i64 0) := (blk_cell BK184.out 0).trans rfl; have hcz9_1 : w8.cell? ⟨gb184, 1, none⟩ = some (.int .i64 0) := (blk_cell BK184.out 1).trans rfl; have hfz9_0 := blk_frozen BK184.out 0; have hfz9_1 := blk_frozen BK184.out 1))
  refine bodyPost_ret (results_cell_row rfl _ _ gb184 24 #[.int .i64 t185, .int .i64 t186] (0, 0) _ rfl (by refine bk ?_; refine blk_put (cs := #[.int .i64 t185, .int .i64 0]) ?_ 1 _ rfl; refine bk ?_; refine blk_put (cs := #[.int .i64 0, .int .i64 0]) ?_ 0 _ rfl; refine bk ?_; exact BK184.out) Try.underlying24 rfl (by kernel_rfl)) rfl ?_
  exact ⟨by first | rfl | (simp [errW_none, errW_some] <;> rfl) | (simp [*, errW_none, errW_some] <;> rfl), by repeat first | exact HB.out | refine bset ?_ ‹_› | apply below_alloc | apply pw_below_drewN | apply below_drew1⟩
 ·
  rw [if_neg c2] at H
  have c2b0 : decide (a0_0 < 0) = false := decide_eq_false c2
  clear c2
  replace H := Option.bind_eq_some_iff.mp H
  obtain ⟨⟨t187, t188⟩, A100, H⟩ := H
  (try dsimp only at H)
  have A10 := Aside0.mk A100
  clear A100
  replace H := Option.bind_eq_some_iff.mp H
  obtain ⟨⟨t189, t190⟩, A110, H⟩ := H
  (try dsimp only at H)
  have A11 := Aside0.mk A110
  clear A110
  simp only [Option.some.injEq, Prod.mk.injEq] at H
  obtain ⟨rfl, rfl⟩ := H
  go_enter Try.func31, Try.ntmps31
  go_wp2_with (first | ((with_reducible refine gate_dst (N := 1) rfl ?_); refine box_event ?hg (N := 1) ?hd (cs := #[.int .i64 a0_0, .int .i64 a0_1]) (t := 24) ?hr ?_; (case hd => rfl); (case hg => rfl); (case hr => first | (go_simp; done) | (go_simp; rfl)); intro gb183 hg w12 hbox hb; have BK183 := Aside0.mk (hbox); have GW183 := hz_ hg HB; have GE183 := hz_ hg HB; replace HB := hs HB hb; clear hb hbox hg) | ((with_reducible refine gate_dst (N := 2) rfl ?_); refine box_event ?hg (N := 2) ?hd (cs := #[.int .i64 0, .int .i64 0]) (t := 24) ?hr ?_; (case hd => rfl); (case hg => rfl); (case hr => first | (go_simp; done) | (go_simp; rfl)); intro gb184 hg w13 hbox hb; have BK184 := Aside0.mk (hbox); have GW184 := bz' HB hg (by repeat first | (with_reducible exact HB.out) | refine bl1 ?_ | (with_reducible refine bset ?_ ‹_›) | exact HB.out); have GE184 := bz' HB hg (by repeat first | (with_reducible exact HB.out) | refine bl1 ?_ | (with_reducible refine bset ?_ ‹_›) | exact HB.out); have NB183_184 := nlk hg BK183; have NB184_183 := ngk hg BK183; replace BK183 := kb BK183 hb; replace HB := hs' HB (by repeat first | (with_reducible exact HB.out) | refine bl1 ?_ | (with_reducible refine bset ?_ ‹_›) | exact HB.out) hb; clear hb hbox hg; have hnb14 := NB183_184.out; have hnc14 := NB184_183.out; have hcz15_0 : w13.cell? ⟨gb183, 0, none⟩ = some (.int .i64 a0_0) := (blk_cell BK183.out 0).trans rfl; have hcz15_1 : w13.cell? ⟨gb183, 1, none⟩ = some (.int .i64 a0_1) := (blk_cell BK183.out 1).trans rfl; have hfz15_0 := blk_frozen BK183.out 0; have hfz15_1 := blk_frozen BK183.out 1) | ((with_reducible refine gate_callee (f := 43) rfl ?_); refine goesL_ (some 9) rfl rfl Try.func43 (by kernel_rfl) rfl #[.agg #[.int .i64 a0_0, .int .i64 a0_1]] rfl (by (try simp only [mp]); first | done | rfl | (simp only [ld]; rfl)) ?_; (with_reducible refine (ratio_Neg.calls k a0_0 a0_1 t187 t188 _ A10.out).mono ?_); rintro e w16 ⟨rfl, hb⟩; refine ⟨_, rfl, ?_⟩; replace BK183 := kb BK183 hb; replace BK184 := kb BK184 hb; replace HB := hs' HB (by repeat first | (with_reducible exact HB.out) | refine bl1 ?_ | (with_reducible refine bset ?_ ‹_›) | exact HB.out) hb; (try clear hb); (try clear hb2); (try clear hk); (try clear hi)) | ((with_reducible refine gate_callee (f := 43) rfl ?_); refine goesL_ (some 10) rfl rfl Try.func43 (by kernel_rfl) rfl #[.agg #[.int .i64 t187, .int .i64 t188]] rfl (by (try simp only [mp]); first | done | rfl | (simp only [ld]; rfl)) ?_; (with_reducible refine (ratio_Neg.calls k t187 t188 t189 t190 _ A11.out).mono ?_); rintro e w17 ⟨rfl, hb⟩; refine ⟨_, rfl, ?_⟩; replace BK183 := kb BK183 hb; replace BK184 := kb BK184 hb; replace HB := hs' HB (by repeat first | (with_reducible exact HB.out) | refine bl1 ?_ | (with_reducible refine bset ?_ ‹_›) | exact HB.out) hb; (try clear hb); (try clear hb2); (try clear hk); (try clear hi); have hcz18_0 : w17.cell? ⟨gb184, 0, none⟩ = some (.int .i64 0) := (blk_cell BK184.out 0).trans rfl; have hcz18_1 : w17.cell? ⟨gb184, 1, none⟩ = some (.int .i64 0) := (blk_cell BK184.out 1).trans rfl; have hfz18_0 := blk_frozen BK184.out 0; have hfz18_1 := blk_frozen BK184.out 1))
  refine bodyPost_ret (results_cell_row rfl _ _ gb184 24 #[.int .i64 t189, .int .i64 t190] (0, 0) _ rfl (by refine bk ?_; refine blk_put (cs := #[.int .i64 t189, .int .i64 0]) ?_ 1 _ rfl; refine bk ?_; refine blk_put (cs := #[.int .i64 0, .int .i64 0]) ?_ 0 _ rfl; refine bk ?_; exact BK184.out) Try.underlying24 rfl (by kernel_rfl)) rfl ?_
  exact ⟨by first | rfl | (simp [errW_none, errW_some] <;> rfl) | (simp [*, errW_none, errW_some] <;> rfl), by repeat first | exact HB.out | refine bset ?_ ‹_› | apply below_alloc | apply pw_below_drewN | apply below_drew1⟩
end Go.Proofs.Ytgecbfemlpmpeaa.SNumberRounds
