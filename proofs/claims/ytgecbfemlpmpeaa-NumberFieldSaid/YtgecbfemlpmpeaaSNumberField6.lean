/- Turned by a program of this session out of what the print prints for the functions that NumberField reaches: the same proofs in shorter words. -/
import Derived.Test.YtgecbfemlpmpeaaSNumberField5
namespace Go.Proofs.Ytgecbfemlpmpeaa.SNumberField
open Go.RowKit Go.Proofs.Ytgecbfemlpmpeaa.Wd.PrintWords Go.Proofs.Ytgecbfemlpmpeaa.Wd.PrintLast Go.Proofs.Ytgecbfemlpmpeaa.Wd.PrintMore
set_option linter.unusedVariables false
set_option linter.unusedSimpArgs false
attribute [local go_sem] max2_int min2_int max_two min_two max_three min_three max_four min_four   -- for this text's walks alone
attribute [local go_sem high] eqA24
set_option maxHeartbeats 8000000 in
set_option maxRecDepth 100000 in
theorem serinettelaw01_NumberField.calls (k : Nat) (a0_0 : Int) (a0_1 : Int) (a1_0 : Int) (a1_1 : Int) (a2_0 : Int) (a2_1 : Int) (r : Bool) (hr : Aside0 (r = true)) (w : World) (h : serinettelaw01_NumberField.f k a0_0 a0_1 a1_0 a1_1 a2_0 a2_1 = some r) :
  Calls Try.prog 4 #[.agg #[.int .i64 a0_0, .int .i64 a0_1], .agg #[.int .i64 a1_0, .int .i64 a1_1], .agg #[.int .i64 a2_0, .int .i64 a2_1]] w fun e w' => e = .returned (.bool r) ∧ Below w.heap.size w w' := by
 have hu24 := Try.underlying24
 have HB := Aside0.mk (Below.refl w.heap.size w)
 have H : ((ratio_Add.f k a0_0 a0_1 a1_0 a1_1).bind fun bt173 => ((ratio_Mul.f k a0_0 a0_1 a1_0 a1_1).bind fun bt176 => ((ratio_Add.f k a1_0 a1_1 a0_0 a0_1).bind fun bt179 => (if (!(bt173.1 == bt179.1) || (!(bt173.2 == bt179.2))) = true then (serinettelaw01_NumberField.j0 k true a0_0 a0_1 a1_0 a1_1 a2_0 a2_1 bt173.1 bt173.2 bt176.1 bt176.2) else ((ratio_Mul.f k a1_0 a1_1 a0_0 a0_1).bind fun bt181 => (serinettelaw01_NumberField.j0 k (!(bt176.1 == bt181.1) || (!(bt176.2 == bt181.2))) a0_0 a0_1 a1_0 a1_1 a2_0 a2_1 bt173.1 bt173.2 bt176.1 bt176.2)))))) = some r := h
 clear h
 replace H := Option.bind_eq_some_iff.mp H
 obtain ⟨⟨t173, t174⟩, A40, H⟩ := H
 (try dsimp only at H)
 have A4 := Aside0.mk A40
 clear A40
 replace H := Option.bind_eq_some_iff.mp H
 obtain ⟨⟨t176, t177⟩, A50, H⟩ := H
 (try dsimp only at H)
 have A5 := Aside0.mk A50
 clear A50
 have HC6 := Aside0.mk H
 clear H
 go_enter Try.func4, Try.ntmps4
 go_upto_region 3 with (first | ((with_reducible refine gate_dst (N := 3) rfl ?_); (try (refine gate_guard (by rfl) ?_; dsimp only)); refine box_event ?hg (N := 3) ?hd (cs := #[.int .i64 a0_0, .int .i64 a0_1]) (t := 24) ?hr ?_; (case hd => rfl); (case hg => rfl); (case hr => first | (go_simp; done) | (go_simp; rfl)); intro gb170 hg w7 hbox hb; have BK170 := Aside0.mk (hbox); have GW170 := hz_ hg HB; have GE170 := hz_ hg HB; replace HB := hs HB hb; clear hb hbox hg) | ((with_reducible refine gate_dst (N := 4) rfl ?_); (try (refine gate_guard (by rfl) ?_; dsimp only)); refine box_event ?hg (N := 4) ?hd (cs := #[.int .i64 a1_0, .int .i64 a1_1]) (t := 24) ?hr ?_; (case hd => rfl); (case hg => rfl); (case hr => first | (go_simp; done) | (go_simp; rfl)); intro gb171 hg w8 hbox hb; have BK171 := Aside0.mk (hbox); have GW171 := bz' HB hg (by repeat first | (with_reducible exact HB.out) | refine bl1 ?_ | (with_reducible refine bset ?_ ‹_›) | exact HB.out); have GE171 := bz' HB hg (by repeat first | (with_reducible exact HB.out) | refine bl1 ?_ | (with_reducible refine bset ?_ ‹_›) | exact HB.out); have NB170_171 := nlk hg BK170; have NB171_170 := ngk hg BK170; replace BK170 := kb BK170 hb; replace HB := hs' HB (by repeat first | (with_reducible exact HB.out) | refine bl1 ?_ | (with_reducible refine bset ?_ ‹_›) | exact HB.out) hb; clear hb hbox hg) | ((with_reducible refine gate_dst (N := 5) rfl ?_); (try (refine gate_guard (by rfl) ?_; dsimp only)); refine box_event ?hg (N := 5) ?hd (cs := #[.int .i64 a2_0, .int .i64 a2_1]) (t := 24) ?hr ?_; (case hd => rfl); (case hg => rfl); (case hr => first | (go_simp; done) | (go_simp; rfl)); intro gb172 hg w9 hbox hb; have BK172 := Aside0.mk (hbox); have GW172 := bz' HB hg (by repeat first | (with_reducible exact HB.out) | refine bl1 ?_ | (with_reducible refine bset ?_ ‹_›) | exact HB.out); have GE172 := bz' HB hg (by repeat first | (with_reducible exact HB.out) | refine bl1 ?_ | (with_reducible refine bset ?_ ‹_›) | exact HB.out); have NB170_172 := nlk hg BK170; have NB172_170 := ngk hg BK170; have NB171_172 := nlk hg BK171; have NB172_171 := ngk hg BK171; replace BK170 := kb BK170 hb; replace BK171 := kb BK171 hb; replace HB := hs' HB (by repeat first | (with_reducible exact HB.out) | refine bl1 ?_ | (with_reducible refine bset ?_ ‹_›) | exact HB.out) hb; clear hb hbox hg; have hnb10 := NB170_171.out; have hnc10 := NB171_170.out; have hnb11 := NB170_172.out; have hnc11 := NB172_170.out; have hcz12_0 : w9.cell? ⟨gb170, 0, none⟩ = some (.int .i64 a0_0) := (blk_cell BK170.out 0).trans rfl; have hcz12_1 : w9.cell? ⟨gb170, 1, none⟩ = some (.int .i64 a0_1) := (blk_cell BK170.out 1).trans rfl; have hfz12_0 := blk_frozen BK170.out 0; have hfz12_1 := blk_frozen BK170.out 1; have hnb13 := NB171_172.out; have hnc13 := NB172_171.out; have hcz14_0 : w9.cell? ⟨gb171, 0, none⟩ = some (.int .i64 a1_0) := (blk_cell BK171.out 0).trans rfl; have hcz14_1 : w9.cell? ⟨gb171, 1, none⟩ = some (.int .i64 a1_1) := (blk_cell BK171.out 1).trans rfl; have hfz14_0 := blk_frozen BK171.out 0; have hfz14_1 := blk_frozen BK171.out 1) | ((with_reducible refine gate_callee (f := 12) rfl ?_); refine goesL_ (some 13) rfl rfl Try.func12 (by kernel_rfl) rfl #[.agg #[.int .i64 a0_0, .int .i64 a0_1], .agg #[.int .i64 a1_0, .int .i64 a1_1]] rfl (by (try simp only [mp]); first | done | rfl | (simp only [ld]; rfl)) ?_; (with_reducible refine (ratio_Add.calls k a0_0 a0_1 a1_0 a1_1 t173 t174 _ A4.out).mono ?_); rintro e w15 ⟨rfl, hb⟩; refine ⟨_, rfl, ?_⟩; replace BK170 := kb BK170 hb; replace BK171 := kb BK171 hb; replace BK172 := kb BK172 hb; replace HB := hs' HB (by repeat first | (with_reducible exact HB.out) | refine bl1 ?_ | (with_reducible refine bset ?_ ‹_›) | exact HB.out) hb; (try clear hb); (try clear hb2); (try clear hk); (try clear hi)) | ((with_reducible refine gate_dst (N := 7) rfl ?_); (try (refine gate_guard (by rfl) ?_; dsimp only)); refine box_event ?hg (N := 7) ?hd (cs := #[.int .i64 0, .int .i64 0]) (t := 24) ?hr ?_; (case hd => rfl); (case hg => rfl); (case hr => first | (go_simp; done) | (go_simp; rfl)); intro gb175 hg w16 hbox hb; have BK175 := Aside0.mk (hbox); have GW175 := bz' HB hg (by repeat first | (with_reducible exact HB.out) | refine bl1 ?_ | (with_reducible refine bset ?_ ‹_›) | exact HB.out); have GE175 := bz' HB hg (by repeat first | (with_reducible exact HB.out) | refine bl1 ?_ | (with_reducible refine bset ?_ ‹_›) | exact HB.out); have NB170_175 := nlk hg BK170; have NB175_170 := ngk hg BK170; have NB171_175 := nlk hg BK171; have NB175_171 := ngk hg BK171; have NB172_175 := nlk hg BK172; have NB175_172 := ngk hg BK172; replace BK170 := kb BK170 hb; replace BK171 := kb BK171 hb; replace BK172 := kb BK172 hb; replace HB := hs' HB (by repeat first | (with_reducible exact HB.out) | refine bl1 ?_ | (with_reducible refine bset ?_ ‹_›) | exact HB.out) hb; clear hb hbox hg; have hnb17 := NB175_170.out; have hnc17 := NB170_175.out; have hnb18 := NB175_171.out; have hnc18 := NB171_175.out; have hnb19 := NB175_172.out; have hnc19 := NB172_175.out; have hcz20_0 : w16.cell? ⟨gb175, 0, none⟩ = some (.int .i64 0) := (blk_cell BK175.out 0).trans rfl; have hcz20_1 : w16.cell? ⟨gb175, 1, none⟩ = some (.int .i64 0) := (blk_cell BK175.out 1).trans rfl; have hfz20_0 := blk_frozen BK175.out 0; have hfz20_1 := blk_frozen BK175.out 1; have hcz21_0 : w16.cell? ⟨gb170, 0, none⟩ = some (.int .i64 a0_0) := (blk_cell BK170.out 0).trans rfl; have hcz21_1 : w16.cell? ⟨gb170, 1, none⟩ = some (.int .i64 a0_1) := (blk_cell BK170.out 1).trans rfl; have hfz21_0 := blk_frozen BK170.out 0; have hfz21_1 := blk_frozen BK170.out 1; have hcz22_0 : w16.cell? ⟨gb171, 0, none⟩ = some (.int .i64 a1_0) := (blk_cell BK171.out 0).trans rfl; have hcz22_1 : w16.cell? ⟨gb171, 1, none⟩ = some (.int .i64 a1_1) := (blk_cell BK171.out 1).trans rfl; have hfz22_0 := blk_frozen BK171.out 0; have hfz22_1 := blk_frozen BK171.out 1) | ((with_reducible refine gate_callee (f := 13) rfl ?_); refine goesL_ (some 16) rfl rfl Try.func13 (by kernel_rfl) rfl #[.agg #[.int .i64 a0_0, .int .i64 a0_1], .agg #[.int .i64 a1_0, .int .i64 a1_1]] rfl (by (try simp only [mp]); first | done | rfl | (simp only [ld]; rfl)) ?_; (with_reducible refine (ratio_Mul.calls k a0_0 a0_1 a1_0 a1_1 t176 t177 _ A5.out).mono ?_); rintro e w23 ⟨rfl, hb⟩; refine ⟨_, rfl, ?_⟩; replace BK170 := Aside0.mk (blk_below (g := gb170) (o := .cells #[.int .i64 a0_0, .int .i64 a0_1] 24 (0, 0)) (by refine bk ?_; refine blk_far ?_ NB170_175.out _; refine bk ?_; refine blk_far ?_ NB170_175.out _; refine bk ?_; exact BK170.out) hb); replace BK171 := Aside0.mk (blk_below (g := gb171) (o := .cells #[.int .i64 a1_0, .int .i64 a1_1] 24 (0, 0)) (by refine bk ?_; refine blk_far ?_ NB171_175.out _; refine bk ?_; refine blk_far ?_ NB171_175.out _; refine bk ?_; exact BK171.out) hb); replace BK172 := Aside0.mk (blk_below (g := gb172) (o := .cells #[.int .i64 a2_0, .int .i64 a2_1] 24 (0, 0)) (by refine bk ?_; refine blk_far ?_ NB172_175.out _; refine bk ?_; refine blk_far ?_ NB172_175.out _; refine bk ?_; exact BK172.out) hb); replace BK175 := Aside0.mk (blk_below (g := gb175) (o := .cells #[.int .i64 t173, .int .i64 t174] 24 (0, 0)) (by refine bk ?_; refine blk_put (cs := #[.int .i64 t173, .int .i64 0]) ?_ 1 _ rfl; refine bk ?_; refine blk_put (cs := #[.int .i64 0, .int .i64 0]) ?_ 0 _ rfl; refine bk ?_; exact BK175.out) hb); replace HB := hs' HB (by repeat first | (with_reducible exact HB.out) | refine bl1 ?_ | (with_reducible refine bset ?_ ‹_›) | exact HB.out) hb; (try clear hb); (try clear hb2); (try clear hk); (try clear hi)) | ((with_reducible refine gate_dst (N := 8) rfl ?_); (try (refine gate_guard (by rfl) ?_; dsimp only)); refine box_event ?hg (N := 8) ?hd (cs := #[.int .i64 0, .int .i64 0]) (t := 24) ?hr ?_; (case hd => rfl); (case hg => rfl); (case hr => first | (go_simp; done) | (go_simp; rfl)); intro gb178 hg w24 hbox hb; have BK178 := Aside0.mk (hbox); have GW178 := bz' HB hg (by repeat first | (with_reducible exact HB.out) | refine bl1 ?_ | (with_reducible refine bset ?_ ‹_›) | exact HB.out); have GE178 := bz' HB hg (by repeat first | (with_reducible exact HB.out) | refine bl1 ?_ | (with_reducible refine bset ?_ ‹_›) | exact HB.out); have NB170_178 := nlk hg BK170; have NB178_170 := ngk hg BK170; have NB171_178 := nlk hg BK171; have NB178_171 := ngk hg BK171; have NB172_178 := nlk hg BK172; have NB178_172 := ngk hg BK172; have NB175_178 := nlk hg BK175; have NB178_175 := ngk hg BK175; replace BK170 := kb BK170 hb; replace BK171 := kb BK171 hb; replace BK172 := kb BK172 hb; replace BK175 := kb BK175 hb; replace HB := hs' HB (by repeat first | (with_reducible exact HB.out) | refine bl1 ?_ | (with_reducible refine bset ?_ ‹_›) | exact HB.out) hb; clear hb hbox hg; have hnb25 := NB178_170.out; have hnc25 := NB170_178.out; have hnb26 := NB178_171.out; have hnc26 := NB171_178.out; have hnb27 := NB178_172.out; have hnc27 := NB172_178.out; have hnb28 := NB178_175.out; have hnc28 := NB175_178.out; have hcz29_0 : w24.cell? ⟨gb178, 0, none⟩ = some (.int .i64 0) := (blk_cell BK178.out 0).trans rfl; have hcz29_1 : w24.cell? ⟨gb178, 1, none⟩ = some (.int .i64 0) := (blk_cell BK178.out 1).trans rfl; have hfz29_0 := blk_frozen BK178.out 0; have hfz29_1 := blk_frozen BK178.out 1))
 (try simp only [Act.put, List.setIfInBounds_toArray, List.set_cons_zero, List.set_cons_succ])
 go_cut [28] (fun v28 wc => ∃ (kq : Nat) (x28_5 : Bool), v28 = .bool x28_5 ∧ Aside0 (serinettelaw01_NumberField.j0 kq x28_5 a0_0 a0_1 a1_0 a1_1 a2_0 a2_1 t173 t174 t176 t177 = some r) ∧ Aside0 (kq ≤ k) ∧ Aside0 (wc.heap[gb170]? = some (.cells #[.int .i64 a0_0, .int .i64 a0_1] 24 (0, 0))) ∧ Aside0 (wc.heap[gb171]? = some (.cells #[.int .i64 a1_0, .int .i64 a1_1] 24 (0, 0))) ∧ Aside0 (wc.heap[gb172]? = some (.cells #[.int .i64 a2_0, .int .i64 a2_1] 24 (0, 0))) ∧ Aside0 (wc.heap[gb175]? = some (.cells #[.int .i64 t173, .int .i64 t174] 24 (0, 0))) ∧ Aside0 (wc.heap[gb178]? = some (.cells #[.int .i64 t176, .int .i64 t177] 24 (0, 0))) ∧ Aside0 (Below w.heap.size w wc))
 case first =>
  have H := HC6.out
  clear HC6
  replace H := Option.bind_eq_some_iff.mp H
  obtain ⟨⟨t179, t180⟩, A300, H⟩ := H
  (try dsimp only at H)
  have A30 := Aside0.mk A300
  clear A300
  by_cases c31 : (!(t173 == t179) || (!(t174 == t180))) = true
  ·
   rw [if_pos c31] at H
   have c31b0 : (!(t173 == t179) || (!(t174 == t180))) = true := c31
   clear c31
   (first | rw [c31b0] | (simp only [i64_w, i32_w]; rw [c31b0]) | skip)
   have H' := Aside0.mk H
   clear H
   try go_wp2
   have n0_ : Aside0 (((w24.setCell ⟨gb178, 0, none⟩ (.int .i64 t176)).setCell ⟨gb178, 1, none⟩ (.int .i64 t177)).heap[gb170]? = some (.cells #[.int .i64 a0_0, .int .i64 a0_1] 24 (0, 0))) := ⟨by refine bk ?_; refine blk_far ?_ NB170_178.out _; refine bk ?_; refine blk_far ?_ NB170_178.out _; refine bk ?_; exact BK170.out⟩
   have n1_ : Aside0 (((w24.setCell ⟨gb178, 0, none⟩ (.int .i64 t176)).setCell ⟨gb178, 1, none⟩ (.int .i64 t177)).heap[gb171]? = some (.cells #[.int .i64 a1_0, .int .i64 a1_1] 24 (0, 0))) := ⟨by refine bk ?_; refine blk_far ?_ NB171_178.out _; refine bk ?_; refine blk_far ?_ NB171_178.out _; refine bk ?_; exact BK171.out⟩
   have n2_ : Aside0 (((w24.setCell ⟨gb178, 0, none⟩ (.int .i64 t176)).setCell ⟨gb178, 1, none⟩ (.int .i64 t177)).heap[gb172]? = some (.cells #[.int .i64 a2_0, .int .i64 a2_1] 24 (0, 0))) := ⟨by refine bk ?_; refine blk_far ?_ NB172_178.out _; refine bk ?_; refine blk_far ?_ NB172_178.out _; refine bk ?_; exact BK172.out⟩
   have n3_ : Aside0 (((w24.setCell ⟨gb178, 0, none⟩ (.int .i64 t176)).setCell ⟨gb178, 1, none⟩ (.int .i64 t177)).heap[gb175]? = some (.cells #[.int .i64 t173, .int .i64 t174] 24 (0, 0))) := ⟨by refine bk ?_; refine blk_far ?_ NB175_178.out _; refine bk ?_; refine blk_far ?_ NB175_178.out _; refine bk ?_; exact BK175.out⟩
   have n4_ : Aside0 (((w24.setCell ⟨gb178, 0, none⟩ (.int .i64 t176)).setCell ⟨gb178, 1, none⟩ (.int .i64 t177)).heap[gb178]? = some (.cells #[.int .i64 t176, .int .i64 t177] 24 (0, 0))) := ⟨by refine bk ?_; refine blk_put (cs := #[.int .i64 t176, .int .i64 0]) ?_ 1 _ rfl; refine bk ?_; refine blk_put (cs := #[.int .i64 0, .int .i64 0]) ?_ 0 _ rfl; refine bk ?_; exact BK178.out⟩
   have n5_ : Aside0 (Below w.heap.size w ((w24.setCell ⟨gb178, 0, none⟩ (.int .i64 t176)).setCell ⟨gb178, 1, none⟩ (.int .i64 t177))) := ⟨by repeat first | exact HB.out | refine bset ?_ ‹_› | apply below_alloc | apply pw_below_drewN | apply below_drew1⟩
   (try clear BK170); (try clear BK171); (try clear BK172); (try clear BK175); (try clear BK178); (try clear HB)
   generalize ((w24.setCell ⟨gb178, 0, none⟩ (.int .i64 t176)).setCell ⟨gb178, 1, none⟩ (.int .i64 t177)) = w32 at n0_ n1_ n2_ n3_ n4_ n5_ ⊢
   have BK170 := n0_
   have BK171 := n1_
   have BK172 := n2_
   have BK175 := n3_
   have BK178 := n4_
   have HB := n5_
   clear n0_ n1_ n2_ n3_ n4_ n5_
   replace BK170 := kd BK170
   replace BK171 := kd BK171
   replace BK172 := kd BK172
   replace BK175 := kd BK175
   replace BK178 := kd BK178
   replace HB := Aside0.mk (below_drew1 HB.out)
   refine start_ (n := 12) (S := fun w' => w'.cell? ⟨gb175, 0, none⟩ = some (.int .i64 t173) ∧ w'.cell? ⟨gb175, 1, none⟩ = some (.int .i64 t174) ∧ w'.cell? ⟨gb171, 0, none⟩ = some (.int .i64 a1_0) ∧ w'.cell? ⟨gb171, 1, none⟩ = some (.int .i64 a1_1) ∧ w'.cell? ⟨gb170, 0, none⟩ = some (.int .i64 a0_0) ∧ w'.cell? ⟨gb170, 1, none⟩ = some (.int .i64 a0_1)) (ds := []) (bA 12 0) (by kernel_rfl) rfl rfl ⟨(blk_cell BK175.out 0).trans rfl, (blk_cell BK175.out 1).trans rfl, (blk_cell BK171.out 0).trans rfl, (blk_cell BK171.out 1).trans rfl, (blk_cell BK170.out 0).trans rfl, (blk_cell BK170.out 1).trans rfl⟩ (fun hHeld => ?_); refine with_tabW serinettelaw01_NumberField.tab3 serinettelaw01_NumberField.bits3 (fun HT_ HW_ => ?_)
   generalize w32.drew = w33 at BK170 BK171 BK172 BK175 BK178 HB hHeld ⊢
   refine take_ (i := 0) (N := some 17) (v := ?_) (a' := ?_) (bA 12 1) rfl rfl (take_ofW HT_.out HW_.out (by kernel_rfl)) (fun _ _ _ h => h) (Or.inl ⟨by rfl, ?_⟩) hHeld ?_ ?_
   rotate_left
   ·
    rintro w' ⟨s0, s1, s2, s3, s4, s5⟩
    go_simp; with_reducible rfl
   rotate_left
   ·
    simp only [ap]
    rfl
   refine take_ (i := 1) (N := some 18) (v := ?_) (a' := ?_) (bA 12 3) rfl rfl (take_ofW HT_.out HW_.out (by kernel_rfl)) (fun _ _ _ h => h) (Or.inl ⟨by rfl, ?_⟩) hHeld ?_ ?_
   rotate_left
   ·
    rintro w' ⟨s0, s1, s2, s3, s4, s5⟩
    go_simp; with_reducible rfl
   rotate_left
   ·
    simp only [ap]
    rfl
   refine take_ (i := 2) (N := some 19) (v := ?_) (a' := ?_) (bA 12 7) rfl rfl (take_ofW HT_.out HW_.out (by kernel_rfl)) (fun _ _ _ h => h) (Or.inl ⟨by rfl, ?_⟩) hHeld ?_ ?_
   rotate_left
   ·
    rintro w' ⟨s0, s1, s2, s3, s4, s5⟩
    go_simp; with_reducible rfl
   rotate_left
   ·
    simp only [ap]
    rfl
   refine one_ (i := 3) (N := some 20) (bA 12 15) rfl rfl (one_of HT_.out (by kernel_rfl)) (by decide) (fun K hK => ?_)
   refine goes_ Try.func12 (by kernel_rfl) rfl #[.agg #[.int .i64 a1_0, .int .i64 a1_1], .agg #[.int .i64 a0_0, .int .i64 a0_1]] (by rfl) rfl rfl (by (try simp only [mp]); first | done | rfl | (simp only [ld]; rfl)) ?_
   with_reducible refine (ratio_Add.calls k a1_0 a1_1 a0_0 a0_1 t179 t180 _ A30.out).mono ?_
   rintro e w34 ⟨rfl, hb⟩
   refine ⟨_, rfl, ?_⟩
   replace BK170 := kb BK170 hb
   replace BK171 := kb BK171 hb
   replace BK172 := kb BK172 hb
   replace BK175 := kb BK175 hb
   replace BK178 := kb BK178 hb
   replace HB := hs' HB (by repeat first | (with_reducible exact HB.out) | refine bl1 ?_ | (with_reducible refine bset ?_ ‹_›) | exact HB.out) hb
   (try clear hb); (try clear hb2); (try clear hk); (try clear hi)
   refine hK.out _ _ ⟨(blk_cell BK175.out 0).trans rfl, (blk_cell BK175.out 1).trans rfl, (blk_cell BK171.out 0).trans rfl, (blk_cell BK171.out 1).trans rfl, (blk_cell BK170.out 0).trans rfl, (blk_cell BK170.out 1).trans rfl⟩ (fun hHeld => ?_)
   clear hK K
   refine norm_ (a' := ?_) ?_ ?_
   rotate_left
   ·
    show Act.put _ (some 20) _ = _
    simp only [ap]; rfl
   refine pure_ (i := 4) (N := some 21) (v := ?_) (a' := ?_) (bA 12 31) rfl rfl (any_of HT_.out (by kernel_rfl)) (fun _ _ _ h => h) (Or.inl ⟨by rfl, ?_⟩) ?_ ?_
   rotate_left
   ·
    intro w'
    go_simp; with_reducible rfl
   rotate_left
   ·
    simp only [ap]
    rfl
   refine pure_ (i := 5) (N := some 22) (v := ?_) (a' := ?_) (bA 12 63) rfl rfl (any_of HT_.out (by kernel_rfl)) (fun _ _ _ h => h) (Or.inl ⟨by rfl, ?_⟩) ?_ ?_
   rotate_left
   ·
    intro w'
    go_simp; with_reducible rfl
   rotate_left
   ·
    simp only [ap]
    rfl
   refine pure_ (i := 6) (N := some 23) (v := undef) (a' := ?_) (bA 12 127) rfl rfl (any_of HT_.out (by kernel_rfl)) (fun _ _ _ h => h) (Or.inr ⟨by rfl, rfl⟩) ?_ ?_
   rotate_left
   ·
    simp only [ap]
    rfl
   refine pure_ (i := 7) (N := some 24) (v := undef) (a' := ?_) (bA 12 255) rfl rfl (any_of HT_.out (by kernel_rfl)) (fun _ _ _ h => h) (Or.inr ⟨by rfl, rfl⟩) ?_ ?_
   rotate_left
   ·
    simp only [ap]
    rfl
   refine pure_ (i := 8) (N := some 25) (v := undef) (a' := ?_) (bA 12 511) rfl rfl (any_of HT_.out (by kernel_rfl)) (fun _ _ _ h => h) (Or.inr ⟨by rfl, rfl⟩) ?_ ?_
   rotate_left
   ·
    simp only [ap]
    rfl
   refine pure_ (i := 9) (N := some 26) (v := undef) (a' := ?_) (bA 12 1023) rfl rfl (any_of HT_.out (by kernel_rfl)) (fun _ _ _ h => h) (Or.inr ⟨by rfl, rfl⟩) ?_ ?_
   rotate_left
   ·
    simp only [ap]
    rfl
   refine pure_ (i := 10) (N := some 27) (v := undef) (a' := ?_) (bA 12 2047) rfl rfl (any_of HT_.out (by kernel_rfl)) (fun _ _ _ h => h) (Or.inr ⟨by rfl, rfl⟩) ?_ ?_
   rotate_left
   ·
    simp only [ap]
    rfl
   refine pure_ (i := 11) (N := some 28) (v := ?_) (a' := ?_) (bA 12 4095) rfl rfl (any_of HT_.out (by kernel_rfl)) (fun _ _ _ h => h) (Or.inl ⟨by rfl, ?_⟩) ?_ ?_
   rotate_left
   ·
    intro w'
    go_simp; with_reducible rfl
   rotate_left
   ·
    simp only [ap]
    rfl
   refine done_ (done_of HT_.out (by kernel_rfl)) ?_
   try go_wp2
   go_meet
   case rel => exact ⟨_, (true), (by first | rfl | (simp; done) | (simp [*]; done)), H', ⟨by first | omega | exact Nat.le_refl _⟩, ⟨by refine bk ?_; exact BK170.out⟩, ⟨by refine bk ?_; exact BK171.out⟩, ⟨by refine bk ?_; exact BK172.out⟩, ⟨by refine bk ?_; exact BK175.out⟩, ⟨by refine bk ?_; exact BK178.out⟩, ⟨by repeat first | exact HB.out | refine bset ?_ ‹_› | apply below_alloc | apply pw_below_drewN | apply below_drew1⟩⟩
  ·
   rw [if_neg c31] at H
   have c31b0 : (!(t173 == t179) || (!(t174 == t180))) = false := by simpa using c31
   clear c31
   (first | rw [c31b0] | (simp only [i64_w, i32_w]; rw [c31b0]) | skip)
   replace H := Option.bind_eq_some_iff.mp H
   obtain ⟨⟨t181, t182⟩, A350, H⟩ := H
   (try dsimp only at H)
   have A35 := Aside0.mk A350
   clear A350
   have H' := Aside0.mk H
   clear H
   try go_wp2
   have n0_ : Aside0 (((w24.setCell ⟨gb178, 0, none⟩ (.int .i64 t176)).setCell ⟨gb178, 1, none⟩ (.int .i64 t177)).heap[gb170]? = some (.cells #[.int .i64 a0_0, .int .i64 a0_1] 24 (0, 0))) := ⟨by refine bk ?_; refine blk_far ?_ NB170_178.out _; refine bk ?_; refine blk_far ?_ NB170_178.out _; refine bk ?_; exact BK170.out⟩
   have n1_ : Aside0 (((w24.setCell ⟨gb178, 0, none⟩ (.int .i64 t176)).setCell ⟨gb178, 1, none⟩ (.int .i64 t177)).heap[gb171]? = some (.cells #[.int .i64 a1_0, .int .i64 a1_1] 24 (0, 0))) := ⟨by refine bk ?_; refine blk_far ?_ NB171_178.out _; refine bk ?_; refine blk_far ?_ NB171_178.out _; refine bk ?_; exact BK171.out⟩
   have n2_ : Aside0 (((w24.setCell ⟨gb178, 0, none⟩ (.int .i64 t176)).setCell ⟨gb178, 1, none⟩ (.int .i64 t177)).heap[gb172]? = some (.cells #[.int .i64 a2_0, .int .i64 a2_1] 24 (0, 0))) := ⟨by refine bk ?_; refine blk_far ?_ NB172_178.out _; refine bk ?_; refine blk_far ?_ NB172_178.out _; refine bk ?_; exact BK172.out⟩
   have n3_ : Aside0 (((w24.setCell ⟨gb178, 0, none⟩ (.int .i64 t176)).setCell ⟨gb178, 1, none⟩ (.int .i64 t177)).heap[gb175]? = some (.cells #[.int .i64 t173, .int .i64 t174] 24 (0, 0))) := ⟨by refine bk ?_; refine blk_far ?_ NB175_178.out _; refine bk ?_; refine blk_far ?_ NB175_178.out _; refine bk ?_; exact BK175.out⟩
   have n4_ : Aside0 (((w24.setCell ⟨gb178, 0, none⟩ (.int .i64 t176)).setCell ⟨gb178, 1, none⟩ (.int .i64 t177)).heap[gb178]? = some (.cells #[.int .i64 t176, .int .i64 t177] 24 (0, 0))) := ⟨by refine bk ?_; refine blk_put (cs := #[.int .i64 t176, .int .i64 0]) ?_ 1 _ rfl; refine bk ?_; refine blk_put (cs := #[.int .i64 0, .int .i64 0]) ?_ 0 _ rfl; refine bk ?_; exact BK178.out⟩
   have n5_ : Aside0 (Below w.heap.size w ((w24.setCell ⟨gb178, 0, none⟩ (.int .i64 t176)).setCell ⟨gb178, 1, none⟩ (.int .i64 t177))) := ⟨by repeat first | exact HB.out | refine bset ?_ ‹_› | apply below_alloc | apply pw_below_drewN | apply below_drew1⟩
   (try clear BK170); (try clear BK171); (try clear BK172); (try clear BK175); (try clear BK178); (try clear HB)
   generalize ((w24.setCell ⟨gb178, 0, none⟩ (.int .i64 t176)).setCell ⟨gb178, 1, none⟩ (.int .i64 t177)) = w36 at n0_ n1_ n2_ n3_ n4_ n5_ ⊢
   have BK170 := n0_
   have BK171 := n1_
   have BK172 := n2_
   have BK175 := n3_
   have BK178 := n4_
   have HB := n5_
   clear n0_ n1_ n2_ n3_ n4_ n5_
   replace BK170 := kd BK170
   replace BK171 := kd BK171
   replace BK172 := kd BK172
   replace BK175 := kd BK175
   replace BK178 := kd BK178
   replace HB := Aside0.mk (below_drew1 HB.out)
   refine start_ (n := 12) (S := fun w' => w'.cell? ⟨gb175, 0, none⟩ = some (.int .i64 t173) ∧ w'.cell? ⟨gb175, 1, none⟩ = some (.int .i64 t174) ∧ w'.cell? ⟨gb171, 0, none⟩ = some (.int .i64 a1_0) ∧ w'.cell? ⟨gb171, 1, none⟩ = some (.int .i64 a1_1) ∧ w'.cell? ⟨gb170, 0, none⟩ = some (.int .i64 a0_0) ∧ w'.cell? ⟨gb170, 1, none⟩ = some (.int .i64 a0_1) ∧ w'.cell? ⟨gb178, 0, none⟩ = some (.int .i64 t176) ∧ w'.cell? ⟨gb178, 1, none⟩ = some (.int .i64 t177)) (ds := []) (bA 12 0) (by kernel_rfl) rfl rfl ⟨(blk_cell BK175.out 0).trans rfl, (blk_cell BK175.out 1).trans rfl, (blk_cell BK171.out 0).trans rfl, (blk_cell BK171.out 1).trans rfl, (blk_cell BK170.out 0).trans rfl, (blk_cell BK170.out 1).trans rfl, (blk_cell BK178.out 0).trans rfl, (blk_cell BK178.out 1).trans rfl⟩ (fun hHeld => ?_); refine with_tabW serinettelaw01_NumberField.tab3 serinettelaw01_NumberField.bits3 (fun HT_ HW_ => ?_)
   generalize w36.drew = w37 at BK170 BK171 BK172 BK175 BK178 HB hHeld ⊢
   refine take_ (i := 0) (N := some 17) (v := ?_) (a' := ?_) (bA 12 1) rfl rfl (take_ofW HT_.out HW_.out (by kernel_rfl)) (fun _ _ _ h => h) (Or.inl ⟨by rfl, ?_⟩) hHeld ?_ ?_
   rotate_left
   ·
    rintro w' ⟨s0, s1, s2, s3, s4, s5, s6, s7⟩
    go_simp; with_reducible rfl
   rotate_left
   ·
    simp only [ap]
    rfl
   refine take_ (i := 1) (N := some 18) (v := ?_) (a' := ?_) (bA 12 3) rfl rfl (take_ofW HT_.out HW_.out (by kernel_rfl)) (fun _ _ _ h => h) (Or.inl ⟨by rfl, ?_⟩) hHeld ?_ ?_
   rotate_left
   ·
    rintro w' ⟨s0, s1, s2, s3, s4, s5, s6, s7⟩
    go_simp; with_reducible rfl
   rotate_left
   ·
    simp only [ap]
    rfl
   refine take_ (i := 2) (N := some 19) (v := ?_) (a' := ?_) (bA 12 7) rfl rfl (take_ofW HT_.out HW_.out (by kernel_rfl)) (fun _ _ _ h => h) (Or.inl ⟨by rfl, ?_⟩) hHeld ?_ ?_
   rotate_left
   ·
    rintro w' ⟨s0, s1, s2, s3, s4, s5, s6, s7⟩
    go_simp; with_reducible rfl
   rotate_left
   ·
    simp only [ap]
    rfl
   refine one_ (i := 3) (N := some 20) (bA 12 15) rfl rfl (one_of HT_.out (by kernel_rfl)) (by decide) (fun K hK => ?_)
   refine goes_ Try.func12 (by kernel_rfl) rfl #[.agg #[.int .i64 a1_0, .int .i64 a1_1], .agg #[.int .i64 a0_0, .int .i64 a0_1]] (by rfl) rfl rfl (by (try simp only [mp]); first | done | rfl | (simp only [ld]; rfl)) ?_
   with_reducible refine (ratio_Add.calls k a1_0 a1_1 a0_0 a0_1 t179 t180 _ A30.out).mono ?_
   rintro e w38 ⟨rfl, hb⟩
   refine ⟨_, rfl, ?_⟩
   replace BK170 := kb BK170 hb
   replace BK171 := kb BK171 hb
   replace BK172 := kb BK172 hb
   replace BK175 := kb BK175 hb
   replace BK178 := kb BK178 hb
   replace HB := hs' HB (by repeat first | (with_reducible exact HB.out) | refine bl1 ?_ | (with_reducible refine bset ?_ ‹_›) | exact HB.out) hb
   (try clear hb); (try clear hb2); (try clear hk); (try clear hi)
   refine hK.out _ _ ⟨(blk_cell BK175.out 0).trans rfl, (blk_cell BK175.out 1).trans rfl, (blk_cell BK171.out 0).trans rfl, (blk_cell BK171.out 1).trans rfl, (blk_cell BK170.out 0).trans rfl, (blk_cell BK170.out 1).trans rfl, (blk_cell BK178.out 0).trans rfl, (blk_cell BK178.out 1).trans rfl⟩ (fun hHeld => ?_)
   clear hK K
   refine norm_ (a' := ?_) ?_ ?_
   rotate_left
   ·
    show Act.put _ (some 20) _ = _
    simp only [ap]; rfl
   refine pure_ (i := 4) (N := some 21) (v := ?_) (a' := ?_) (bA 12 31) rfl rfl (any_of HT_.out (by kernel_rfl)) (fun _ _ _ h => h) (Or.inl ⟨by rfl, ?_⟩) ?_ ?_
   rotate_left
   ·
    intro w'
    go_simp; with_reducible rfl
   rotate_left
   ·
    simp only [ap]
    rfl
   refine pure_ (i := 5) (N := some 22) (v := ?_) (a' := ?_) (bA 12 63) rfl rfl (any_of HT_.out (by kernel_rfl)) (fun _ _ _ h => h) (Or.inl ⟨by rfl, ?_⟩) ?_ ?_
   rotate_left
   ·
    intro w'
    go_simp; with_reducible rfl
   rotate_left
   ·
    simp only [ap]
    rfl
   refine take_ (i := 6) (N := some 23) (v := ?_) (a' := ?_) (bA 12 127) rfl rfl (take_ofW HT_.out HW_.out (by kernel_rfl)) (fun _ _ _ h => h) (Or.inl ⟨by rfl, ?_⟩) hHeld ?_ ?_
   rotate_left
   ·
    rintro w' ⟨s0, s1, s2, s3, s4, s5, s6, s7⟩
    go_simp; with_reducible rfl
   rotate_left
   ·
    simp only [ap]
    rfl
   refine take_ (i := 7) (N := some 24) (v := ?_) (a' := ?_) (bA 12 255) rfl rfl (take_ofW HT_.out HW_.out (by kernel_rfl)) (fun _ _ _ h => h) (Or.inl ⟨by rfl, ?_⟩) hHeld ?_ ?_
   rotate_left
   ·
    rintro w' ⟨s0, s1, s2, s3, s4, s5, s6, s7⟩
    go_simp; with_reducible rfl
   rotate_left
   ·
    simp only [ap]
    rfl
   refine take_ (i := 8) (N := some 25) (v := ?_) (a' := ?_) (bA 12 511) rfl rfl (take_ofW HT_.out HW_.out (by kernel_rfl)) (fun _ _ _ h => h) (Or.inl ⟨by rfl, ?_⟩) hHeld ?_ ?_
   rotate_left
   ·
    rintro w' ⟨s0, s1, s2, s3, s4, s5, s6, s7⟩
    go_simp; with_reducible rfl
   rotate_left
   ·
    simp only [ap]
    rfl
   refine one_ (i := 9) (N := some 26) (bA 12 1023) rfl rfl (one_of HT_.out (by kernel_rfl)) (by decide) (fun K hK => ?_)
   refine goes_ Try.func13 (by kernel_rfl) rfl #[.agg #[.int .i64 a1_0, .int .i64 a1_1], .agg #[.int .i64 a0_0, .int .i64 a0_1]] (by rfl) rfl rfl (by (try simp only [mp]); first | done | rfl | (simp only [ld]; rfl)) ?_
   with_reducible refine (ratio_Mul.calls k a1_0 a1_1 a0_0 a0_1 t181 t182 _ A35.out).mono ?_
   rintro e w39 ⟨rfl, hb⟩
   refine ⟨_, rfl, ?_⟩
   replace BK170 := kb BK170 hb
   replace BK171 := kb BK171 hb
   replace BK172 := kb BK172 hb
   replace BK175 := kb BK175 hb
   replace BK178 := kb BK178 hb
   replace HB := hs' HB (by repeat first | (with_reducible exact HB.out) | refine bl1 ?_ | (with_reducible refine bset ?_ ‹_›) | exact HB.out) hb
   (try clear hb); (try clear hb2); (try clear hk); (try clear hi)
   refine hK.out _ _ ⟨(blk_cell BK175.out 0).trans rfl, (blk_cell BK175.out 1).trans rfl, (blk_cell BK171.out 0).trans rfl, (blk_cell BK171.out 1).trans rfl, (blk_cell BK170.out 0).trans rfl, (blk_cell BK170.out 1).trans rfl, (blk_cell BK178.out 0).trans rfl, (blk_cell BK178.out 1).trans rfl⟩ (fun hHeld => ?_)
   clear hK K
   refine norm_ (a' := ?_) ?_ ?_
   rotate_left
   ·
    show Act.put _ (some 26) _ = _
    simp only [ap]; rfl
   refine pure_ (i := 10) (N := some 27) (v := ?_) (a' := ?_) (bA 12 2047) rfl rfl (any_of HT_.out (by kernel_rfl)) (fun _ _ _ h => h) (Or.inl ⟨by rfl, ?_⟩) ?_ ?_
   rotate_left
   ·
    intro w'
    go_simp; with_reducible rfl
   rotate_left
   ·
    simp only [ap]
    rfl
   refine pure_ (i := 11) (N := some 28) (v := ?_) (a' := ?_) (bA 12 4095) rfl rfl (any_of HT_.out (by kernel_rfl)) (fun _ _ _ h => h) (Or.inl ⟨by rfl, ?_⟩) ?_ ?_
   rotate_left
   ·
    intro w'
    go_simp; with_reducible rfl
   rotate_left
   ·
    simp only [ap]
    rfl
   refine done_ (done_of HT_.out (by kernel_rfl)) ?_
   try go_wp2
   go_meet
   case rel => exact ⟨_, ((!(t176 == t181) || (!(t177 == t182)))), (by first | rfl | (simp; done) | (simp [*]; done)), H', ⟨by first | omega | exact Nat.le_refl _⟩, ⟨by refine bk ?_; exact BK170.out⟩, ⟨by refine bk ?_; exact BK171.out⟩, ⟨by refine bk ?_; exact BK172.out⟩, ⟨by refine bk ?_; exact BK175.out⟩, ⟨by refine bk ?_; exact BK178.out⟩, ⟨by repeat first | exact HB.out | refine bset ?_ ‹_› | apply below_alloc | apply pw_below_drewN | apply below_drew1⟩⟩
 case rest =>
  clear HC6
  (try clear c1); (try clear c2); (try clear p2); (try clear c3); (try clear c4); (try clear c10); (try clear c11); (try clear c12); (try clear c13); (try clear c17); (try clear c18); (try clear c19); (try clear c25); (try clear c26); (try clear c27); (try clear c28); (try clear c31); (try clear c31b0); (try clear hcz12_0); (try clear hcz12_1); (try clear hcz14_0); (try clear hcz14_1); (try clear hcz20_0); (try clear hcz20_1); (try clear hcz21_0); (try clear hcz21_1); (try clear hcz22_0); (try clear hcz22_1); (try clear hcz29_0); (try clear hcz29_1); (try clear hfz12_0); (try clear hfz12_1); (try clear hfz14_0); (try clear hfz14_1); (try clear hfz20_0); (try clear hfz20_1); (try clear hfz21_0); (try clear hfz21_1); (try clear hfz22_0); (try clear hfz22_1); (try clear hfz29_0); (try clear hfz29_1)
  obtain ⟨kq, x28_5, rfl, HA, HJ5, BK170, BK171, BK172, BK175, BK178, HB⟩ := hcut
  cases kq with
  | zero => exact absurd HA.out (by simp [serinettelaw01_NumberField.j0])
  | succ kj5 =>
   have H := HA.out
   clear HA
   simp only [serinettelaw01_NumberField.j0] at H
   by_cases c40 : x28_5 = true
   ·
    subst c40
    rw [if_pos rfl] at H
    exact absurd (H.trans (congrArg some hr.out)) (by simp)
   ·
    replace c40 := Bool.eq_false_iff.mpr c40
    subst c40
    rw [if_neg (show ¬ (false = true) by decide)] at H
    have HC41 := Aside0.mk H
    clear H
    go_upto_region 5 with (fail)
    go_cut [57] (fun v57 wc => ∃ (kq : Nat) (x57_40 : Bool), v57 = .bool x57_40 ∧ Aside0 (serinettelaw01_NumberField.j1 kq x57_40 a0_0 a0_1 a1_0 a1_1 a2_0 a2_1 t173 t174 = some r) ∧ Aside0 (kq ≤ kj5) ∧ Aside0 (wc.heap[gb170]? = some (.cells #[.int .i64 a0_0, .int .i64 a0_1] 24 (0, 0))) ∧ Aside0 (wc.heap[gb171]? = some (.cells #[.int .i64 a1_0, .int .i64 a1_1] 24 (0, 0))) ∧ Aside0 (wc.heap[gb172]? = some (.cells #[.int .i64 a2_0, .int .i64 a2_1] 24 (0, 0))) ∧ Aside0 (wc.heap[gb175]? = some (.cells #[.int .i64 t173, .int .i64 t174] 24 (0, 0))) ∧ Aside0 (wc.heap[gb178]? = some (.cells #[.int .i64 t176, .int .i64 t177] 24 (0, 0))) ∧ Aside0 (Below w.heap.size w wc))
    case first =>
     have H := HC41.out
     clear HC41
     obtain ⟨y183, hy183⟩ : ∃ y_ : List (S24), y_ = (([(⟨a0_0, a0_1⟩ : S24), (⟨a1_0, a1_1⟩ : S24)] : List (S24))) := ⟨_, rfl⟩
     replace H : ((serinettelaw01_numbers.f kj5 y183).bind fun t186 => (if t186 = true then (serinettelaw01_NumberField.j1 kj5 false a0_0 a0_1 a1_0 a1_1 a2_0 a2_1 t173 t174) else ((serinettelaw01_numbers.f kj5 (([(⟨t173, t174⟩ : S24)] : List (S24)))).bind fun t190 => (if t190 = true then (serinettelaw01_NumberField.j1 kj5 true a0_0 a0_1 a1_0 a1_1 a2_0 a2_1 t173 t174) else ((serinettelaw01_numbers.f kj5 (([(⟨t176, t177⟩ : S24)] : List (S24)))).bind fun t194 => (if t194 = true then (serinettelaw01_NumberField.j1 kj5 true a0_0 a0_1 a1_0 a1_1 a2_0 a2_1 t173 t174) else ((ratio_Min.f kj5 a0_0 a0_1 a1_0 a1_1).bind fun bt195 => ((serinettelaw01_numbers.f kj5 (([(⟨bt195.1, bt195.2⟩ : S24)] : List (S24)))).bind fun t200 => (if t200 = true then (serinettelaw01_NumberField.j1 kj5 true a0_0 a0_1 a1_0 a1_1 a2_0 a2_1 t173 t174) else ((ratio_Mod.f kj5 a0_0 a0_1 a1_0 a1_1).bind fun bt201 => ((serinettelaw01_numbers.f kj5 (([(⟨bt201.1, bt201.2⟩ : S24)] : List (S24)))).bind fun t206 => (serinettelaw01_NumberField.j1 kj5 t206 a0_0 a0_1 a1_0 a1_1 a2_0 a2_1 t173 t174)))))))))))) = some r := by first | (rw [hy183]; with_reducible exact H) | (have H2_ := (Option.bind_some _ _).symm.trans H; rw [hy183]; with_reducible exact H2_) | (have H2_ := (Option.bind_some _ _).symm.trans H; with_reducible exact H2_) | with_reducible exact H | (rw [hy183]; exact H) | exact H
     have Ny183 := Aside0.mk hy183
     clear hy183
     replace H := Option.bind_eq_some_iff.mp H
     obtain ⟨t186, A420, H⟩ := H
     (try dsimp only at H)
     have A42 := Aside0.mk A420
     clear A420
     by_cases c43 : t186 = true
     ·
      subst c43
      rw [if_pos rfl] at H
      have H' := Aside0.mk H
      clear H
      have hnb44 := NB170_171.out
      have hnc44 := NB171_170.out
      have hnb45 := NB170_172.out
      have hnc45 := NB172_170.out
      have hnb46 := NB170_175.out
      have hnc46 := NB175_170.out
      have hnb47 := NB170_178.out
      have hnc47 := NB178_170.out
      have hcz48_0 : wc.cell? ⟨gb170, 0, none⟩ = some (.int .i64 a0_0) := (blk_cell BK170.out 0).trans rfl
      have hcz48_1 : wc.cell? ⟨gb170, 1, none⟩ = some (.int .i64 a0_1) := (blk_cell BK170.out 1).trans rfl
      have hfz48_0 := blk_frozen BK170.out 0
      have hfz48_1 := blk_frozen BK170.out 1
      have hnb49 := NB171_172.out
      have hnc49 := NB172_171.out
      have hnb50 := NB171_175.out
      have hnc50 := NB175_171.out
      have hnb51 := NB171_178.out
      have hnc51 := NB178_171.out
      have hcz52_0 : wc.cell? ⟨gb171, 0, none⟩ = some (.int .i64 a1_0) := (blk_cell BK171.out 0).trans rfl
      have hcz52_1 : wc.cell? ⟨gb171, 1, none⟩ = some (.int .i64 a1_1) := (blk_cell BK171.out 1).trans rfl
      have hfz52_0 := blk_frozen BK171.out 0
      have hfz52_1 := blk_frozen BK171.out 1
      go_wp2_with (first | ((with_reducible refine gate_dst (N := 31) rfl ?_); (try (refine gate_guard (by rfl) ?_; dsimp only)); refine Kd.R_lit k24 _ 24 ?hg (N := 31) ?hd (xs := ([(⟨a0_0, a0_1⟩ : S24), (⟨a1_0, a1_1⟩ : S24)] : List (S24))) (inner := [.int .i64 a0_0, .int .i64 a0_1, .int .i64 a1_0, .int .i64 a1_1]) (ok := fun _ => True) (okp := fun _ => True) ?hr ?hp (fun _ hk => hk) trivial (Below.refl _ _) (Nat.le_refl _) (by simp) ?_; (case hd => rfl); (case hg => rfl); (case hr => first | (go_simp; done) | (go_simp; rfl)); (case hp => exact (Reps.c2 (show Kd.M k24 _ _ _ (⟨a0_0, a0_1⟩ : S24) [.int .i64 a0_0, .int .i64 a0_1] from (k24_mkM _ _ _ (⟨a0_0, a0_1⟩ : S24) )) (Reps.c2 (show Kd.M k24 _ _ _ (⟨a1_0, a1_1⟩ : S24) [.int .i64 a1_0, .int .i64 a1_1] from (k24_mkM _ _ _ (⟨a1_0, a1_1⟩ : S24) )) (Reps.none _ _)))); intro v184 w53 ho54 hb hg_ hnew_; clear hg_ hnew_; (first | rw [← Ny183.out] at ho54 | (simp only [Int.reduceToNat] at ho54; rw [← Ny183.out] at ho54)); have HO185 := Aside0.mk (Kd.R_lower (Kd.R_newB (Kd.R_newB (Kd.R_newB (Kd.R_newB (Kd.R_newB ho54 (g := gb170) (o := .cells #[.int .i64 a0_0, .int .i64 a0_1] 24 (0, 0)) (bk BK170.out)) (g := gb171) (o := .cells #[.int .i64 a1_0, .int .i64 a1_1] 24 (0, 0)) (bk BK171.out)) (g := gb172) (o := .cells #[.int .i64 a2_0, .int .i64 a2_1] 24 (0, 0)) (bk BK172.out)) (g := gb175) (o := .cells #[.int .i64 t173, .int .i64 t174] 24 (0, 0)) (bk BK175.out)) (g := gb178) (o := .cells #[.int .i64 t176, .int .i64 t177] 24 (0, 0)) (bk BK178.out)) (below_size (by repeat first | (with_reducible exact HB.out) | refine bl1 ?_ | (with_reducible refine bset ?_ ‹_›) | exact HB.out))); replace BK170 := kb BK170 hb; replace BK171 := kb BK171 hb; replace BK172 := kb BK172 hb; replace BK175 := kb BK175 hb; replace BK178 := kb BK178 hb; replace HB := hs' HB (by repeat first | (with_reducible exact HB.out) | refine bl1 ?_ | (with_reducible refine bset ?_ ‹_›) | exact HB.out) hb; clear hb ho54; obtain ⟨Ao55, co55, eo55⟩ := Kd.R_slice HO185.out; subst eo55) | ((with_reducible refine gate_callee (f := 14) rfl ?_); refine goesL_ (some 32) rfl rfl Try.func14 (by kernel_rfl) rfl #[.slice Ao55 y183.length co55] rfl (by (try simp only [mp]); first | done | rfl | (simp only [ld]; rfl)) ?_; (with_reducible refine (serinettelaw01_numbers.calls kj5 _ _ y183 true _ ?side1 ?side2 A42.out).mono ?_); (case side1 => repeat (first | exact (Kd.R_reads' HO185.out).2.2 | (with_reducible refine Kd.C_alloc ?_ _) | (with_reducible refine Kd.C_drewN ?_ _) | (with_reducible refine Kd.C_drew ?_))); (case side2 => exact (Kd.R_reads' HO185.out).2.1); rintro e w56 ⟨rfl, hb⟩; refine ⟨_, rfl, ?_⟩; replace HO185 := Aside0.mk (Kd.R_below (by (with_reducible repeat (first | apply Kd.R_alloc | apply Kd.R_drewN | apply Kd.R_drew)); exact HO185.out) hb); replace BK170 := kb BK170 hb; replace BK171 := kb BK171 hb; replace BK172 := kb BK172 hb; replace BK175 := kb BK175 hb; replace BK178 := kb BK178 hb; replace HB := hs' HB (by repeat first | (with_reducible exact HB.out) | refine bl1 ?_ | (with_reducible refine bset ?_ ‹_›) | exact HB.out) hb; (try clear hb); (try clear hb2); (try clear hk); (try clear hi)))
      go_meet
      case rel => exact ⟨_, (false), (by first | rfl | (simp; done) | (simp [*]; done)), H', ⟨by have := HJ5.out; first | omega | exact Nat.le_refl _⟩, ⟨by refine bk ?_; exact BK170.out⟩, ⟨by refine bk ?_; exact BK171.out⟩, ⟨by refine bk ?_; exact BK172.out⟩, ⟨by refine bk ?_; exact BK175.out⟩, ⟨by refine bk ?_; exact BK178.out⟩, ⟨by repeat first | exact HB.out | refine bset ?_ ‹_› | apply below_alloc | apply pw_below_drewN | apply below_drew1⟩⟩
     ·
      replace c43 := Bool.eq_false_iff.mpr c43
      subst c43
      rw [if_neg (show ¬ (false = true) by decide)] at H
      obtain ⟨y187, hy187⟩ : ∃ y_ : List (S24), y_ = (([(⟨t173, t174⟩ : S24)] : List (S24))) := ⟨_, rfl⟩
      replace H : ((serinettelaw01_numbers.f kj5 y187).bind fun t190 => (if t190 = true then (serinettelaw01_NumberField.j1 kj5 true a0_0 a0_1 a1_0 a1_1 a2_0 a2_1 t173 t174) else ((serinettelaw01_numbers.f kj5 (([(⟨t176, t177⟩ : S24)] : List (S24)))).bind fun t194 => (if t194 = true then (serinettelaw01_NumberField.j1 kj5 true a0_0 a0_1 a1_0 a1_1 a2_0 a2_1 t173 t174) else ((ratio_Min.f kj5 a0_0 a0_1 a1_0 a1_1).bind fun bt195 => ((serinettelaw01_numbers.f kj5 (([(⟨bt195.1, bt195.2⟩ : S24)] : List (S24)))).bind fun t200 => (if t200 = true then (serinettelaw01_NumberField.j1 kj5 true a0_0 a0_1 a1_0 a1_1 a2_0 a2_1 t173 t174) else ((ratio_Mod.f kj5 a0_0 a0_1 a1_0 a1_1).bind fun bt201 => ((serinettelaw01_numbers.f kj5 (([(⟨bt201.1, bt201.2⟩ : S24)] : List (S24)))).bind fun t206 => (serinettelaw01_NumberField.j1 kj5 t206 a0_0 a0_1 a1_0 a1_1 a2_0 a2_1 t173 t174)))))))))) = some r := by first | (rw [hy187]; with_reducible exact H) | (have H2_ := (Option.bind_some _ _).symm.trans H; rw [hy187]; with_reducible exact H2_) | (have H2_ := (Option.bind_some _ _).symm.trans H; with_reducible exact H2_) | with_reducible exact H | (rw [hy187]; exact H) | exact H
      have Ny187 := Aside0.mk hy187
      clear hy187
      replace H := Option.bind_eq_some_iff.mp H
      obtain ⟨t190, A570, H⟩ := H
      (try dsimp only at H)
      have A57 := Aside0.mk A570
      clear A570
      by_cases c58 : t190 = true
      ·
       subst c58
       rw [if_pos rfl] at H
       exact absurd (H.trans (congrArg some hr.out)) (serinettelaw01_NumberField.j1_true _ _ _ _ _ _ _ _ _)
      ·
       replace c58 := Bool.eq_false_iff.mpr c58
       subst c58
       rw [if_neg (show ¬ (false = true) by decide)] at H
       obtain ⟨y191, hy191⟩ : ∃ y_ : List (S24), y_ = (([(⟨t176, t177⟩ : S24)] : List (S24))) := ⟨_, rfl⟩
       replace H : ((serinettelaw01_numbers.f kj5 y191).bind fun t194 => (if t194 = true then (serinettelaw01_NumberField.j1 kj5 true a0_0 a0_1 a1_0 a1_1 a2_0 a2_1 t173 t174) else ((ratio_Min.f kj5 a0_0 a0_1 a1_0 a1_1).bind fun bt195 => ((serinettelaw01_numbers.f kj5 (([(⟨bt195.1, bt195.2⟩ : S24)] : List (S24)))).bind fun t200 => (if t200 = true then (serinettelaw01_NumberField.j1 kj5 true a0_0 a0_1 a1_0 a1_1 a2_0 a2_1 t173 t174) else ((ratio_Mod.f kj5 a0_0 a0_1 a1_0 a1_1).bind fun bt201 => ((serinettelaw01_numbers.f kj5 (([(⟨bt201.1, bt201.2⟩ : S24)] : List (S24)))).bind fun t206 => (serinettelaw01_NumberField.j1 kj5 t206 a0_0 a0_1 a1_0 a1_1 a2_0 a2_1 t173 t174)))))))) = some r := by first | (rw [hy191]; with_reducible exact H) | (have H2_ := (Option.bind_some _ _).symm.trans H; rw [hy191]; with_reducible exact H2_) | (have H2_ := (Option.bind_some _ _).symm.trans H; with_reducible exact H2_) | with_reducible exact H | (rw [hy191]; exact H) | exact H
       have Ny191 := Aside0.mk hy191
       clear hy191
       replace H := Option.bind_eq_some_iff.mp H
       obtain ⟨t194, A790, H⟩ := H
       (try dsimp only at H)
       have A79 := Aside0.mk A790
       clear A790
       by_cases c80 : t194 = true
       ·
        subst c80
        rw [if_pos rfl] at H
        exact absurd (H.trans (congrArg some hr.out)) (serinettelaw01_NumberField.j1_true _ _ _ _ _ _ _ _ _)
       ·
        replace c80 := Bool.eq_false_iff.mpr c80
        subst c80
        rw [if_neg (show ¬ (false = true) by decide)] at H
        replace H := Option.bind_eq_some_iff.mp H
        obtain ⟨⟨t195, t196⟩, A1070, H⟩ := H
        (try dsimp only at H)
        have A107 := Aside0.mk A1070
        clear A1070
        obtain ⟨y197, hy197⟩ : ∃ y_ : List (S24), y_ = (([(⟨t195, t196⟩ : S24)] : List (S24))) := ⟨_, rfl⟩
        replace H : ((serinettelaw01_numbers.f kj5 y197).bind fun t200 => (if t200 = true then (serinettelaw01_NumberField.j1 kj5 true a0_0 a0_1 a1_0 a1_1 a2_0 a2_1 t173 t174) else ((ratio_Mod.f kj5 a0_0 a0_1 a1_0 a1_1).bind fun bt201 => ((serinettelaw01_numbers.f kj5 (([(⟨bt201.1, bt201.2⟩ : S24)] : List (S24)))).bind fun t206 => (serinettelaw01_NumberField.j1 kj5 t206 a0_0 a0_1 a1_0 a1_1 a2_0 a2_1 t173 t174))))) = some r := by first | (rw [hy197]; with_reducible exact H) | (have H2_ := (Option.bind_some _ _).symm.trans H; rw [hy197]; with_reducible exact H2_) | (have H2_ := (Option.bind_some _ _).symm.trans H; with_reducible exact H2_) | with_reducible exact H | (rw [hy197]; exact H) | exact H
        have Ny197 := Aside0.mk hy197
        clear hy197
        replace H := Option.bind_eq_some_iff.mp H
        obtain ⟨t200, A1080, H⟩ := H
        (try dsimp only at H)
        have A108 := Aside0.mk A1080
        clear A1080
        by_cases c109 : t200 = true
        ·
         subst c109
         rw [if_pos rfl] at H
         exact absurd (H.trans (congrArg some hr.out)) (serinettelaw01_NumberField.j1_true _ _ _ _ _ _ _ _ _)
        ·
         replace c109 := Bool.eq_false_iff.mpr c109
         subst c109
         rw [if_neg (show ¬ (false = true) by decide)] at H
         replace H := Option.bind_eq_some_iff.mp H
         obtain ⟨⟨t201, t202⟩, A1430, H⟩ := H
         (try dsimp only at H)
         have A143 := Aside0.mk A1430
         clear A1430
         obtain ⟨y203, hy203⟩ : ∃ y_ : List (S24), y_ = (([(⟨t201, t202⟩ : S24)] : List (S24))) := ⟨_, rfl⟩
         replace H : ((serinettelaw01_numbers.f kj5 y203).bind fun t206 => (serinettelaw01_NumberField.j1 kj5 t206 a0_0 a0_1 a1_0 a1_1 a2_0 a2_1 t173 t174)) = some r := by first | (rw [hy203]; with_reducible exact H) | (have H2_ := (Option.bind_some _ _).symm.trans H; rw [hy203]; with_reducible exact H2_) | (have H2_ := (Option.bind_some _ _).symm.trans H; with_reducible exact H2_) | with_reducible exact H | (rw [hy203]; exact H) | exact H
         have Ny203 := Aside0.mk hy203
         clear hy203
         replace H := Option.bind_eq_some_iff.mp H
         obtain ⟨t206, A1440, H⟩ := H
         (try dsimp only at H)
         have A144 := Aside0.mk A1440
         clear A1440
         have H' := Aside0.mk H
         clear H
         have hnb145 := NB170_171.out
         have hnc145 := NB171_170.out
         have hnb146 := NB170_172.out
         have hnc146 := NB172_170.out
         have hnb147 := NB170_175.out
         have hnc147 := NB175_170.out
         have hnb148 := NB170_178.out
         have hnc148 := NB178_170.out
         have hcz149_0 : wc.cell? ⟨gb170, 0, none⟩ = some (.int .i64 a0_0) := (blk_cell BK170.out 0).trans rfl
         have hcz149_1 : wc.cell? ⟨gb170, 1, none⟩ = some (.int .i64 a0_1) := (blk_cell BK170.out 1).trans rfl
         have hfz149_0 := blk_frozen BK170.out 0
         have hfz149_1 := blk_frozen BK170.out 1
         have hnb150 := NB171_172.out
         have hnc150 := NB172_171.out
         have hnb151 := NB171_175.out
         have hnc151 := NB175_171.out
         have hnb152 := NB171_178.out
         have hnc152 := NB178_171.out
         have hcz153_0 : wc.cell? ⟨gb171, 0, none⟩ = some (.int .i64 a1_0) := (blk_cell BK171.out 0).trans rfl
         have hcz153_1 : wc.cell? ⟨gb171, 1, none⟩ = some (.int .i64 a1_1) := (blk_cell BK171.out 1).trans rfl
         have hfz153_0 := blk_frozen BK171.out 0
         have hfz153_1 := blk_frozen BK171.out 1
         go_wp2_with (first | ((with_reducible refine gate_dst (N := 31) rfl ?_); (try (refine gate_guard (by rfl) ?_; dsimp only)); refine Kd.R_lit k24 _ 24 ?hg (N := 31) ?hd (xs := ([(⟨a0_0, a0_1⟩ : S24), (⟨a1_0, a1_1⟩ : S24)] : List (S24))) (inner := [.int .i64 a0_0, .int .i64 a0_1, .int .i64 a1_0, .int .i64 a1_1]) (ok := fun _ => True) (okp := fun _ => True) ?hr ?hp (fun _ hk => hk) trivial (Below.refl _ _) (Nat.le_refl _) (by simp) ?_; (case hd => rfl); (case hg => rfl); (case hr => first | (go_simp; done) | (go_simp; rfl)); (case hp => exact (Reps.c2 (show Kd.M k24 _ _ _ (⟨a0_0, a0_1⟩ : S24) [.int .i64 a0_0, .int .i64 a0_1] from (k24_mkM _ _ _ (⟨a0_0, a0_1⟩ : S24) )) (Reps.c2 (show Kd.M k24 _ _ _ (⟨a1_0, a1_1⟩ : S24) [.int .i64 a1_0, .int .i64 a1_1] from (k24_mkM _ _ _ (⟨a1_0, a1_1⟩ : S24) )) (Reps.none _ _)))); intro v184 w154 ho155 hb hg_ hnew_; clear hg_ hnew_; (first | rw [← Ny183.out] at ho155 | (simp only [Int.reduceToNat] at ho155; rw [← Ny183.out] at ho155)); have HO185 := Aside0.mk (Kd.R_lower (Kd.R_newB (Kd.R_newB (Kd.R_newB (Kd.R_newB (Kd.R_newB ho155 (g := gb170) (o := .cells #[.int .i64 a0_0, .int .i64 a0_1] 24 (0, 0)) (bk BK170.out)) (g := gb171) (o := .cells #[.int .i64 a1_0, .int .i64 a1_1] 24 (0, 0)) (bk BK171.out)) (g := gb172) (o := .cells #[.int .i64 a2_0, .int .i64 a2_1] 24 (0, 0)) (bk BK172.out)) (g := gb175) (o := .cells #[.int .i64 t173, .int .i64 t174] 24 (0, 0)) (bk BK175.out)) (g := gb178) (o := .cells #[.int .i64 t176, .int .i64 t177] 24 (0, 0)) (bk BK178.out)) (below_size (by repeat first | (with_reducible exact HB.out) | refine bl1 ?_ | (with_reducible refine bset ?_ ‹_›) | exact HB.out))); replace BK170 := kb BK170 hb; replace BK171 := kb BK171 hb; replace BK172 := kb BK172 hb; replace BK175 := kb BK175 hb; replace BK178 := kb BK178 hb; replace HB := hs' HB (by repeat first | (with_reducible exact HB.out) | refine bl1 ?_ | (with_reducible refine bset ?_ ‹_›) | exact HB.out) hb; clear hb ho155; obtain ⟨Ao156, co156, eo156⟩ := Kd.R_slice HO185.out; subst eo156) | ((with_reducible refine gate_callee (f := 14) rfl ?_); refine goesL_ (some 32) rfl rfl Try.func14 (by kernel_rfl) rfl #[.slice Ao156 y183.length co156] rfl (by (try simp only [mp]); first | done | rfl | (simp only [ld]; rfl)) ?_; (with_reducible refine (serinettelaw01_numbers.calls kj5 _ _ y183 false _ ?side1 ?side2 A42.out).mono ?_); (case side1 => repeat (first | exact (Kd.R_reads' HO185.out).2.2 | (with_reducible refine Kd.C_alloc ?_ _) | (with_reducible refine Kd.C_drewN ?_ _) | (with_reducible refine Kd.C_drew ?_))); (case side2 => exact (Kd.R_reads' HO185.out).2.1); rintro e w157 ⟨rfl, hb⟩; refine ⟨_, rfl, ?_⟩; replace HO185 := Aside0.mk (Kd.R_below (by (with_reducible repeat (first | apply Kd.R_alloc | apply Kd.R_drewN | apply Kd.R_drew)); exact HO185.out) hb); replace BK170 := kb BK170 hb; replace BK171 := kb BK171 hb; replace BK172 := kb BK172 hb; replace BK175 := kb BK175 hb; replace BK178 := kb BK178 hb; replace HB := hs' HB (by repeat first | (with_reducible exact HB.out) | refine bl1 ?_ | (with_reducible refine bset ?_ ‹_›) | exact HB.out) hb; (try clear hb); (try clear hb2); (try clear hk); (try clear hi); have hnb158 := NB175_172.out; have hnc158 := NB172_175.out; have hnb159 := NB175_178.out; have hnc159 := NB178_175.out; have hcz160_0 : w157.cell? ⟨gb175, 0, none⟩ = some (.int .i64 t173) := (blk_cell BK175.out 0).trans rfl; have hcz160_1 : w157.cell? ⟨gb175, 1, none⟩ = some (.int .i64 t174) := (blk_cell BK175.out 1).trans rfl; have hfz160_0 := blk_frozen BK175.out 0; have hfz160_1 := blk_frozen BK175.out 1) | ((with_reducible refine gate_dst (N := 36) rfl ?_); (try (refine gate_guard (by rfl) ?_; dsimp only)); refine Kd.R_lit k24 _ 24 ?hg (N := 36) ?hd (xs := ([(⟨t173, t174⟩ : S24)] : List (S24))) (inner := [.int .i64 t173, .int .i64 t174]) (ok := fun _ => True) (okp := fun _ => True) ?hr ?hp (fun _ hk => hk) trivial (Below.refl _ _) (Nat.le_refl _) (by simp) ?_; (case hd => rfl); (case hg => rfl); (case hr => first | (go_simp; done) | (go_simp; rfl)); (case hp => exact (Reps.c2 (show Kd.M k24 _ _ _ (⟨t173, t174⟩ : S24) [.int .i64 t173, .int .i64 t174] from (k24_mkM _ _ _ (⟨t173, t174⟩ : S24) )) (Reps.none _ _))); intro v188 w161 ho162 hb hg_ hnew_; clear hg_ hnew_; (first | rw [← Ny187.out] at ho162 | (simp only [Int.reduceToNat] at ho162; rw [← Ny187.out] at ho162)); have HO189 := Aside0.mk (Kd.R_lower (Kd.R_newB (Kd.R_newB (Kd.R_newB (Kd.R_newB (Kd.R_newB (Kd.R_new' ho162 (Kd.R_lt (by (with_reducible repeat (first | apply Kd.R_alloc | apply Kd.R_drewN | apply Kd.R_drew)); exact HO185.out))) (g := gb170) (o := .cells #[.int .i64 a0_0, .int .i64 a0_1] 24 (0, 0)) (bk BK170.out)) (g := gb171) (o := .cells #[.int .i64 a1_0, .int .i64 a1_1] 24 (0, 0)) (bk BK171.out)) (g := gb172) (o := .cells #[.int .i64 a2_0, .int .i64 a2_1] 24 (0, 0)) (bk BK172.out)) (g := gb175) (o := .cells #[.int .i64 t173, .int .i64 t174] 24 (0, 0)) (bk BK175.out)) (g := gb178) (o := .cells #[.int .i64 t176, .int .i64 t177] 24 (0, 0)) (bk BK178.out)) (below_size (by repeat first | (with_reducible exact HB.out) | refine bl1 ?_ | (with_reducible refine bset ?_ ‹_›) | exact HB.out))); replace HO185 := Aside0.mk (Kd.R_elder' (by (with_reducible repeat (first | apply Kd.R_alloc | apply Kd.R_drewN | apply Kd.R_drew)); exact HO185.out) (Kd.R_base ho162) hb); replace BK170 := kb BK170 hb; replace BK171 := kb BK171 hb; replace BK172 := kb BK172 hb; replace BK175 := kb BK175 hb; replace BK178 := kb BK178 hb; replace HB := hs' HB (by repeat first | (with_reducible exact HB.out) | refine bl1 ?_ | (with_reducible refine bset ?_ ‹_›) | exact HB.out) hb; clear hb ho162; obtain ⟨Ao163, co163, eo163⟩ := Kd.R_slice HO189.out; subst eo163) | (go_at_call 14; (with_reducible refine (serinettelaw01_numbers.calls kj5 _ _ y187 false _ ?side1 ?side2 A57.out).mono ?_); (case side1 => repeat (first | exact (Kd.R_reads' HO189.out).2.2 | (with_reducible refine Kd.C_alloc ?_ _) | (with_reducible refine Kd.C_drewN ?_ _) | (with_reducible refine Kd.C_drew ?_))); (case side2 => exact (Kd.R_reads' HO189.out).2.1); rintro e w164 ⟨rfl, hb⟩; replace HO185 := Aside0.mk (Kd.R_below (by (with_reducible repeat (first | apply Kd.R_alloc | apply Kd.R_drewN | apply Kd.R_drew)); exact HO185.out) hb); replace HO189 := Aside0.mk (Kd.R_below (by (with_reducible repeat (first | apply Kd.R_alloc | apply Kd.R_drewN | apply Kd.R_drew)); exact HO189.out) hb); replace BK170 := kb BK170 hb; replace BK171 := kb BK171 hb; replace BK172 := kb BK172 hb; replace BK175 := kb BK175 hb; replace BK178 := kb BK178 hb; replace HB := hs' HB (by repeat first | (with_reducible exact HB.out) | refine bl1 ?_ | (with_reducible refine bset ?_ ‹_›) | exact HB.out) hb; (try clear hb); (try clear hb2); (try clear hk); (try clear hi); have hnb165 := NB178_172.out; have hnc165 := NB172_178.out; have hcz166_0 : w164.cell? ⟨gb178, 0, none⟩ = some (.int .i64 t176) := (blk_cell BK178.out 0).trans rfl; have hcz166_1 : w164.cell? ⟨gb178, 1, none⟩ = some (.int .i64 t177) := (blk_cell BK178.out 1).trans rfl; have hfz166_0 := blk_frozen BK178.out 0; have hfz166_1 := blk_frozen BK178.out 1) | ((with_reducible refine gate_dst (N := 40) rfl ?_); (try (refine gate_guard (by rfl) ?_; dsimp only)); refine Kd.R_lit k24 _ 24 ?hg (N := 40) ?hd (xs := ([(⟨t176, t177⟩ : S24)] : List (S24))) (inner := [.int .i64 t176, .int .i64 t177]) (ok := fun _ => True) (okp := fun _ => True) ?hr ?hp (fun _ hk => hk) trivial (Below.refl _ _) (Nat.le_refl _) (by simp) ?_; (case hd => rfl); (case hg => rfl); (case hr => first | (go_simp; done) | (go_simp; rfl)); (case hp => exact (Reps.c2 (show Kd.M k24 _ _ _ (⟨t176, t177⟩ : S24) [.int .i64 t176, .int .i64 t177] from (k24_mkM _ _ _ (⟨t176, t177⟩ : S24) )) (Reps.none _ _))); intro v192 w167 ho168 hb hg_ hnew_; clear hg_ hnew_; (first | rw [← Ny191.out] at ho168 | (simp only [Int.reduceToNat] at ho168; rw [← Ny191.out] at ho168)); have HO193 := Aside0.mk (Kd.R_lower (Kd.R_newB (Kd.R_newB (Kd.R_newB (Kd.R_newB (Kd.R_newB (Kd.R_new' (Kd.R_new' ho168 (Kd.R_lt (by (with_reducible repeat (first | apply Kd.R_alloc | apply Kd.R_drewN | apply Kd.R_drew)); exact HO185.out))) (Kd.R_lt (by (with_reducible repeat (first | apply Kd.R_alloc | apply Kd.R_drewN | apply Kd.R_drew)); exact HO189.out))) (g := gb170) (o := .cells #[.int .i64 a0_0, .int .i64 a0_1] 24 (0, 0)) (bk BK170.out)) (g := gb171) (o := .cells #[.int .i64 a1_0, .int .i64 a1_1] 24 (0, 0)) (bk BK171.out)) (g := gb172) (o := .cells #[.int .i64 a2_0, .int .i64 a2_1] 24 (0, 0)) (bk BK172.out)) (g := gb175) (o := .cells #[.int .i64 t173, .int .i64 t174] 24 (0, 0)) (bk BK175.out)) (g := gb178) (o := .cells #[.int .i64 t176, .int .i64 t177] 24 (0, 0)) (bk BK178.out)) (below_size (by repeat first | (with_reducible exact HB.out) | refine bl1 ?_ | (with_reducible refine bset ?_ ‹_›) | exact HB.out))); replace HO185 := Aside0.mk (Kd.R_elder' (by (with_reducible repeat (first | apply Kd.R_alloc | apply Kd.R_drewN | apply Kd.R_drew)); exact HO185.out) (Kd.R_base ho168) hb); replace HO189 := Aside0.mk (Kd.R_elder' (by (with_reducible repeat (first | apply Kd.R_alloc | apply Kd.R_drewN | apply Kd.R_drew)); exact HO189.out) (Kd.R_base ho168) hb); replace BK170 := kb BK170 hb; replace BK171 := kb BK171 hb; replace BK172 := kb BK172 hb; replace BK175 := kb BK175 hb; replace BK178 := kb BK178 hb; replace HB := hs' HB (by repeat first | (with_reducible exact HB.out) | refine bl1 ?_ | (with_reducible refine bset ?_ ‹_›) | exact HB.out) hb; clear hb ho168; obtain ⟨Ao169, co169, eo169⟩ := Kd.R_slice HO193.out; subst eo169) | (go_at_call 14; (with_reducible refine (serinettelaw01_numbers.calls kj5 _ _ y191 false _ ?side1 ?side2 A79.out).mono ?_); (case side1 => repeat (first | exact (Kd.R_reads' HO193.out).2.2 | (with_reducible refine Kd.C_alloc ?_ _) | (with_reducible refine Kd.C_drewN ?_ _) | (with_reducible refine Kd.C_drew ?_))); (case side2 => exact (Kd.R_reads' HO193.out).2.1); rintro e w170 ⟨rfl, hb⟩; replace HO185 := Aside0.mk (Kd.R_below (by (with_reducible repeat (first | apply Kd.R_alloc | apply Kd.R_drewN | apply Kd.R_drew)); exact HO185.out) hb); replace HO189 := Aside0.mk (Kd.R_below (by (with_reducible repeat (first | apply Kd.R_alloc | apply Kd.R_drewN | apply Kd.R_drew)); exact HO189.out) hb); replace HO193 := Aside0.mk (Kd.R_below (by (with_reducible repeat (first | apply Kd.R_alloc | apply Kd.R_drewN | apply Kd.R_drew)); exact HO193.out) hb); replace BK170 := kb BK170 hb; replace BK171 := kb BK171 hb; replace BK172 := kb BK172 hb; replace BK175 := kb BK175 hb; replace BK178 := kb BK178 hb; replace HB := hs' HB (by repeat first | (with_reducible exact HB.out) | refine bl1 ?_ | (with_reducible refine bset ?_ ‹_›) | exact HB.out) hb; (try clear hb); (try clear hb2); (try clear hk); (try clear hi); have hcz171_0 : w170.cell? ⟨gb170, 0, none⟩ = some (.int .i64 a0_0) := (blk_cell BK170.out 0).trans rfl; have hcz171_1 : w170.cell? ⟨gb170, 1, none⟩ = some (.int .i64 a0_1) := (blk_cell BK170.out 1).trans rfl; have hfz171_0 := blk_frozen BK170.out 0; have hfz171_1 := blk_frozen BK170.out 1; have hcz172_0 : w170.cell? ⟨gb171, 0, none⟩ = some (.int .i64 a1_0) := (blk_cell BK171.out 0).trans rfl; have hcz172_1 : w170.cell? ⟨gb171, 1, none⟩ = some (.int .i64 a1_1) := (blk_cell BK171.out 1).trans rfl; have hfz172_0 := blk_frozen BK171.out 0; have hfz172_1 := blk_frozen BK171.out 1) | (go_at_call 15; (with_reducible refine (ratio_Min.calls kj5 a0_0 a0_1 a1_0 a1_1 t195 t196 _ A107.out).mono ?_); rintro e w173 ⟨rfl, hb⟩; replace HO185 := Aside0.mk (Kd.R_below (by (with_reducible repeat (first | apply Kd.R_alloc | apply Kd.R_drewN | apply Kd.R_drew)); exact HO185.out) hb); replace HO189 := Aside0.mk (Kd.R_below (by (with_reducible repeat (first | apply Kd.R_alloc | apply Kd.R_drewN | apply Kd.R_drew)); exact HO189.out) hb); replace HO193 := Aside0.mk (Kd.R_below (by (with_reducible repeat (first | apply Kd.R_alloc | apply Kd.R_drewN | apply Kd.R_drew)); exact HO193.out) hb); replace BK170 := kb BK170 hb; replace BK171 := kb BK171 hb; replace BK172 := kb BK172 hb; replace BK175 := kb BK175 hb; replace BK178 := kb BK178 hb; replace HB := hs' HB (by repeat first | (with_reducible exact HB.out) | refine bl1 ?_ | (with_reducible refine bset ?_ ‹_›) | exact HB.out) hb; (try clear hb); (try clear hb2); (try clear hk); (try clear hi)) | ((with_reducible refine gate_dst (N := 47) rfl ?_); (try (refine gate_guard (by rfl) ?_; dsimp only)); refine Kd.R_lit k24 _ 24 ?hg (N := 47) ?hd (xs := ([(⟨t195, t196⟩ : S24)] : List (S24))) (inner := [.int .i64 t195, .int .i64 t196]) (ok := fun _ => True) (okp := fun _ => True) ?hr ?hp (fun _ hk => hk) trivial (Below.refl _ _) (Nat.le_refl _) (by simp) ?_; (case hd => rfl); (case hg => rfl); (case hr => first | (go_simp; done) | (go_simp; rfl)); (case hp => exact (Reps.c2 (show Kd.M k24 _ _ _ (⟨t195, t196⟩ : S24) [.int .i64 t195, .int .i64 t196] from (k24_mkM _ _ _ (⟨t195, t196⟩ : S24) )) (Reps.none _ _))); intro v198 w174 ho175 hb hg_ hnew_; clear hg_ hnew_; (first | rw [← Ny197.out] at ho175 | (simp only [Int.reduceToNat] at ho175; rw [← Ny197.out] at ho175)); have HO199 := Aside0.mk (Kd.R_lower (Kd.R_newB (Kd.R_newB (Kd.R_newB (Kd.R_newB (Kd.R_newB (Kd.R_new' (Kd.R_new' (Kd.R_new' ho175 (Kd.R_lt (by (with_reducible repeat (first | apply Kd.R_alloc | apply Kd.R_drewN | apply Kd.R_drew)); exact HO185.out))) (Kd.R_lt (by (with_reducible repeat (first | apply Kd.R_alloc | apply Kd.R_drewN | apply Kd.R_drew)); exact HO189.out))) (Kd.R_lt (by (with_reducible repeat (first | apply Kd.R_alloc | apply Kd.R_drewN | apply Kd.R_drew)); exact HO193.out))) (g := gb170) (o := .cells #[.int .i64 a0_0, .int .i64 a0_1] 24 (0, 0)) (bk BK170.out)) (g := gb171) (o := .cells #[.int .i64 a1_0, .int .i64 a1_1] 24 (0, 0)) (bk BK171.out)) (g := gb172) (o := .cells #[.int .i64 a2_0, .int .i64 a2_1] 24 (0, 0)) (bk BK172.out)) (g := gb175) (o := .cells #[.int .i64 t173, .int .i64 t174] 24 (0, 0)) (bk BK175.out)) (g := gb178) (o := .cells #[.int .i64 t176, .int .i64 t177] 24 (0, 0)) (bk BK178.out)) (below_size (by repeat first | (with_reducible exact HB.out) | refine bl1 ?_ | (with_reducible refine bset ?_ ‹_›) | exact HB.out))); replace HO185 := Aside0.mk (Kd.R_elder' (by (with_reducible repeat (first | apply Kd.R_alloc | apply Kd.R_drewN | apply Kd.R_drew)); exact HO185.out) (Kd.R_base ho175) hb); replace HO189 := Aside0.mk (Kd.R_elder' (by (with_reducible repeat (first | apply Kd.R_alloc | apply Kd.R_drewN | apply Kd.R_drew)); exact HO189.out) (Kd.R_base ho175) hb); replace HO193 := Aside0.mk (Kd.R_elder' (by (with_reducible repeat (first | apply Kd.R_alloc | apply Kd.R_drewN | apply Kd.R_drew)); exact HO193.out) (Kd.R_base ho175) hb); replace BK170 := kb BK170 hb; replace BK171 := kb BK171 hb; replace BK172 := kb BK172 hb; replace BK175 := kb BK175 hb; replace BK178 := kb BK178 hb; replace HB := hs' HB (by repeat first | (with_reducible exact HB.out) | refine bl1 ?_ | (with_reducible refine bset ?_ ‹_›) | exact HB.out) hb; clear hb ho175; obtain ⟨Ao176, co176, eo176⟩ := Kd.R_slice HO199.out; subst eo176) | (go_at_call 14; (with_reducible refine (serinettelaw01_numbers.calls kj5 _ _ y197 false _ ?side1 ?side2 A108.out).mono ?_); (case side1 => repeat (first | exact (Kd.R_reads' HO199.out).2.2 | (with_reducible refine Kd.C_alloc ?_ _) | (with_reducible refine Kd.C_drewN ?_ _) | (with_reducible refine Kd.C_drew ?_))); (case side2 => exact (Kd.R_reads' HO199.out).2.1); rintro e w177 ⟨rfl, hb⟩; replace HO185 := Aside0.mk (Kd.R_below (by (with_reducible repeat (first | apply Kd.R_alloc | apply Kd.R_drewN | apply Kd.R_drew)); exact HO185.out) hb); replace HO189 := Aside0.mk (Kd.R_below (by (with_reducible repeat (first | apply Kd.R_alloc | apply Kd.R_drewN | apply Kd.R_drew)); exact HO189.out) hb); replace HO193 := Aside0.mk (Kd.R_below (by (with_reducible repeat (first | apply Kd.R_alloc | apply Kd.R_drewN | apply Kd.R_drew)); exact HO193.out) hb); replace HO199 := Aside0.mk (Kd.R_below (by (with_reducible repeat (first | apply Kd.R_alloc | apply Kd.R_drewN | apply Kd.R_drew)); exact HO199.out) hb); replace BK170 := kb BK170 hb; replace BK171 := kb BK171 hb; replace BK172 := kb BK172 hb; replace BK175 := kb BK175 hb; replace BK178 := kb BK178 hb; replace HB := hs' HB (by repeat first | (with_reducible exact HB.out) | refine bl1 ?_ | (with_reducible refine bset ?_ ‹_›) | exact HB.out) hb; (try clear hb); (try clear hb2); (try clear hk); (try clear hi); have hcz178_0 : w177.cell? ⟨gb170, 0, none⟩ = some (.int .i64 a0_0) := (blk_cell BK170.out 0).trans rfl; have hcz178_1 : w177.cell? ⟨gb170, 1, none⟩ = some (.int .i64 a0_1) := (blk_cell BK170.out 1).trans rfl; have hfz178_0 := blk_frozen BK170.out 0; have hfz178_1 := blk_frozen BK170.out 1; have hcz179_0 : w177.cell? ⟨gb171, 0, none⟩ = some (.int .i64 a1_0) := (blk_cell BK171.out 0).trans rfl; have hcz179_1 : w177.cell? ⟨gb171, 1, none⟩ = some (.int .i64 a1_1) := (blk_cell BK171.out 1).trans rfl; have hfz179_0 := blk_frozen BK171.out 0; have hfz179_1 := blk_frozen BK171.out 1) | (go_at_call 16; (with_reducible refine (ratio_Mod.calls kj5 a0_0 a0_1 a1_0 a1_1 t201 t202 _ A143.out).mono ?_); rintro e w180 ⟨rfl, hb⟩; replace HO185 := Aside0.mk (Kd.R_below (by (with_reducible repeat (first | apply Kd.R_alloc | apply Kd.R_drewN | apply Kd.R_drew)); exact HO185.out) hb); replace HO189 := Aside0.mk (Kd.R_below (by (with_reducible repeat (first | apply Kd.R_alloc | apply Kd.R_drewN | apply Kd.R_drew)); exact HO189.out) hb); replace HO193 := Aside0.mk (Kd.R_below (by (with_reducible repeat (first | apply Kd.R_alloc | apply Kd.R_drewN | apply Kd.R_drew)); exact HO193.out) hb); replace HO199 := Aside0.mk (Kd.R_below (by (with_reducible repeat (first | apply Kd.R_alloc | apply Kd.R_drewN | apply Kd.R_drew)); exact HO199.out) hb); replace BK170 := kb BK170 hb; replace BK171 := kb BK171 hb; replace BK172 := kb BK172 hb; replace BK175 := kb BK175 hb; replace BK178 := kb BK178 hb; replace HB := hs' HB (by repeat first | (with_reducible exact HB.out) | refine bl1 ?_ | (with_reducible refine bset ?_ ‹_›) | exact HB.out) hb; (try clear hb); (try clear hb2); (try clear hk); (try clear hi)) | ((with_reducible refine gate_dst (N := 54) rfl ?_); (try (refine gate_guard (by rfl) ?_; dsimp only)); refine Kd.R_lit k24 _ 24 ?hg (N := 54) ?hd (xs := ([(⟨t201, t202⟩ : S24)] : List (S24))) (inner := [.int .i64 t201, .int .i64 t202]) (ok := fun _ => True) (okp := fun _ => True) ?hr ?hp (fun _ hk => hk) trivial (Below.refl _ _) (Nat.le_refl _) (by simp) ?_; (case hd => rfl); (case hg => rfl); (case hr => first | (go_simp; done) | (go_simp; rfl)); (case hp => exact (Reps.c2 (show Kd.M k24 _ _ _ (⟨t201, t202⟩ : S24) [.int .i64 t201, .int .i64 t202] from (k24_mkM _ _ _ (⟨t201, t202⟩ : S24) )) (Reps.none _ _))); intro v204 w181 ho182 hb hg_ hnew_; clear hg_ hnew_; (first | rw [← Ny203.out] at ho182 | (simp only [Int.reduceToNat] at ho182; rw [← Ny203.out] at ho182)); have HO205 := Aside0.mk (Kd.R_lower (Kd.R_newB (Kd.R_newB (Kd.R_newB (Kd.R_newB (Kd.R_newB (Kd.R_new' (Kd.R_new' (Kd.R_new' (Kd.R_new' ho182 (Kd.R_lt (by (with_reducible repeat (first | apply Kd.R_alloc | apply Kd.R_drewN | apply Kd.R_drew)); exact HO185.out))) (Kd.R_lt (by (with_reducible repeat (first | apply Kd.R_alloc | apply Kd.R_drewN | apply Kd.R_drew)); exact HO189.out))) (Kd.R_lt (by (with_reducible repeat (first | apply Kd.R_alloc | apply Kd.R_drewN | apply Kd.R_drew)); exact HO193.out))) (Kd.R_lt (by (with_reducible repeat (first | apply Kd.R_alloc | apply Kd.R_drewN | apply Kd.R_drew)); exact HO199.out))) (g := gb170) (o := .cells #[.int .i64 a0_0, .int .i64 a0_1] 24 (0, 0)) (bk BK170.out)) (g := gb171) (o := .cells #[.int .i64 a1_0, .int .i64 a1_1] 24 (0, 0)) (bk BK171.out)) (g := gb172) (o := .cells #[.int .i64 a2_0, .int .i64 a2_1] 24 (0, 0)) (bk BK172.out)) (g := gb175) (o := .cells #[.int .i64 t173, .int .i64 t174] 24 (0, 0)) (bk BK175.out)) (g := gb178) (o := .cells #[.int .i64 t176, .int .i64 t177] 24 (0, 0)) (bk BK178.out)) (below_size (by repeat first | (with_reducible exact HB.out) | refine bl1 ?_ | (with_reducible refine bset ?_ ‹_›) | exact HB.out))); replace HO185 := Aside0.mk (Kd.R_elder' (by (with_reducible repeat (first | apply Kd.R_alloc | apply Kd.R_drewN | apply Kd.R_drew)); exact HO185.out) (Kd.R_base ho182) hb); replace HO189 := Aside0.mk (Kd.R_elder' (by (with_reducible repeat (first | apply Kd.R_alloc | apply Kd.R_drewN | apply Kd.R_drew)); exact HO189.out) (Kd.R_base ho182) hb); replace HO193 := Aside0.mk (Kd.R_elder' (by (with_reducible repeat (first | apply Kd.R_alloc | apply Kd.R_drewN | apply Kd.R_drew)); exact HO193.out) (Kd.R_base ho182) hb); replace HO199 := Aside0.mk (Kd.R_elder' (by (with_reducible repeat (first | apply Kd.R_alloc | apply Kd.R_drewN | apply Kd.R_drew)); exact HO199.out) (Kd.R_base ho182) hb); replace BK170 := kb BK170 hb; replace BK171 := kb BK171 hb; replace BK172 := kb BK172 hb; replace BK175 := kb BK175 hb; replace BK178 := kb BK178 hb; replace HB := hs' HB (by repeat first | (with_reducible exact HB.out) | refine bl1 ?_ | (with_reducible refine bset ?_ ‹_›) | exact HB.out) hb; clear hb ho182; obtain ⟨Ao183, co183, eo183⟩ := Kd.R_slice HO205.out; subst eo183) | (go_at_call 14; (with_reducible refine (serinettelaw01_numbers.calls kj5 _ _ y203 t206 _ ?side1 ?side2 A144.out).mono ?_); (case side1 => repeat (first | exact (Kd.R_reads' HO205.out).2.2 | (with_reducible refine Kd.C_alloc ?_ _) | (with_reducible refine Kd.C_drewN ?_ _) | (with_reducible refine Kd.C_drew ?_))); (case side2 => exact (Kd.R_reads' HO205.out).2.1); rintro e w184 ⟨rfl, hb⟩; replace HO185 := Aside0.mk (Kd.R_below (by (with_reducible repeat (first | apply Kd.R_alloc | apply Kd.R_drewN | apply Kd.R_drew)); exact HO185.out) hb); replace HO189 := Aside0.mk (Kd.R_below (by (with_reducible repeat (first | apply Kd.R_alloc | apply Kd.R_drewN | apply Kd.R_drew)); exact HO189.out) hb); replace HO193 := Aside0.mk (Kd.R_below (by (with_reducible repeat (first | apply Kd.R_alloc | apply Kd.R_drewN | apply Kd.R_drew)); exact HO193.out) hb); replace HO199 := Aside0.mk (Kd.R_below (by (with_reducible repeat (first | apply Kd.R_alloc | apply Kd.R_drewN | apply Kd.R_drew)); exact HO199.out) hb); replace HO205 := Aside0.mk (Kd.R_below (by (with_reducible repeat (first | apply Kd.R_alloc | apply Kd.R_drewN | apply Kd.R_drew)); exact HO205.out) hb); replace BK170 := kb BK170 hb; replace BK171 := kb BK171 hb; replace BK172 := kb BK172 hb; replace BK175 := kb BK175 hb; replace BK178 := kb BK178 hb; replace HB := hs' HB (by repeat first | (with_reducible exact HB.out) | refine bl1 ?_ | (with_reducible refine bset ?_ ‹_›) | exact HB.out) hb; (try clear hb); (try clear hb2); (try clear hk); (try clear hi)))
         go_meet
         case rel => exact ⟨_, (t206), (by first | rfl | (simp; done) | (simp [*]; done)), H', ⟨by have := HJ5.out; first | omega | exact Nat.le_refl _⟩, ⟨by refine bk ?_; exact BK170.out⟩, ⟨by refine bk ?_; exact BK171.out⟩, ⟨by refine bk ?_; exact BK172.out⟩, ⟨by refine bk ?_; exact BK175.out⟩, ⟨by refine bk ?_; exact BK178.out⟩, ⟨by repeat first | exact HB.out | refine bset ?_ ‹_› | apply below_alloc | apply pw_below_drewN | apply below_drew1⟩⟩
    case rest =>
     clear HC41
     (try clear c1); (try clear c2); (try clear p2); (try clear c3); (try clear c4); (try clear c5); (try clear c6); (try clear c7); (try clear c8); (try clear c9); (try clear c10); (try clear c11); (try clear c12); (try clear c13); (try clear c14); (try clear c15); (try clear c16); (try clear c17); (try clear c18); (try clear c19); (try clear c25); (try clear c26); (try clear c27); (try clear c28); (try clear c31); (try clear c31b0); (try clear c40); (try clear c43); (try clear c44); (try clear c45); (try clear c46); (try clear c47); (try clear c49); (try clear c50); (try clear c51); (try clear c58); (try clear c59); (try clear c60); (try clear c61); (try clear c62); (try clear c64); (try clear c65); (try clear c66); (try clear c72); (try clear c73); (try clear c80); (try clear c81); (try clear c82); (try clear c83); (try clear c84); (try clear c86); (try clear c87); (try clear c88); (try clear c94); (try clear c95); (try clear c101); (try clear c109); (try clear c110); (try clear c111); (try clear c112); (try clear c113); (try clear c115); (try clear c116); (try clear c117); (try clear c123); (try clear c124); (try clear c130); (try clear c145); (try clear c146); (try clear c147); (try clear c148); (try clear c150); (try clear c151); (try clear c152); (try clear c158); (try clear c159); (try clear c165); (try clear hcz102_0); (try clear hcz102_1); (try clear hcz114_0); (try clear hcz114_1); (try clear hcz118_0); (try clear hcz118_1); (try clear hcz125_0); (try clear hcz125_1); (try clear hcz12_0); (try clear hcz12_1); (try clear hcz131_0); (try clear hcz131_1); (try clear hcz136_0); (try clear hcz136_1); (try clear hcz137_0); (try clear hcz137_1); (try clear hcz149_0); (try clear hcz149_1); (try clear hcz14_0); (try clear hcz14_1); (try clear hcz153_0); (try clear hcz153_1); (try clear hcz160_0); (try clear hcz160_1); (try clear hcz166_0); (try clear hcz166_1); (try clear hcz171_0); (try clear hcz171_1); (try clear hcz172_0); (try clear hcz172_1); (try clear hcz178_0); (try clear hcz178_1); (try clear hcz179_0); (try clear hcz179_1); (try clear hcz20_0); (try clear hcz20_1); (try clear hcz21_0); (try clear hcz21_1); (try clear hcz22_0); (try clear hcz22_1); (try clear hcz29_0); (try clear hcz29_1); (try clear hcz48_0); (try clear hcz48_1); (try clear hcz52_0); (try clear hcz52_1); (try clear hcz63_0); (try clear hcz63_1); (try clear hcz67_0); (try clear hcz67_1); (try clear hcz74_0); (try clear hcz74_1); (try clear hcz85_0); (try clear hcz85_1); (try clear hcz89_0); (try clear hcz89_1); (try clear hcz96_0); (try clear hcz96_1); (try clear hfz102_0); (try clear hfz102_1); (try clear hfz114_0); (try clear hfz114_1); (try clear hfz118_0); (try clear hfz118_1); (try clear hfz125_0); (try clear hfz125_1); (try clear hfz12_0); (try clear hfz12_1); (try clear hfz131_0); (try clear hfz131_1); (try clear hfz136_0); (try clear hfz136_1); (try clear hfz137_0); (try clear hfz137_1); (try clear hfz149_0); (try clear hfz149_1); (try clear hfz14_0); (try clear hfz14_1); (try clear hfz153_0); (try clear hfz153_1); (try clear hfz160_0); (try clear hfz160_1); (try clear hfz166_0); (try clear hfz166_1); (try clear hfz171_0); (try clear hfz171_1); (try clear hfz172_0); (try clear hfz172_1); (try clear hfz178_0); (try clear hfz178_1); (try clear hfz179_0); (try clear hfz179_1); (try clear hfz20_0); (try clear hfz20_1); (try clear hfz21_0); (try clear hfz21_1); (try clear hfz22_0); (try clear hfz22_1); (try clear hfz29_0); (try clear hfz29_1); (try clear hfz48_0); (try clear hfz48_1); (try clear hfz52_0); (try clear hfz52_1); (try clear hfz63_0); (try clear hfz63_1); (try clear hfz67_0); (try clear hfz67_1); (try clear hfz74_0); (try clear hfz74_1); (try clear hfz85_0); (try clear hfz85_1); (try clear hfz89_0); (try clear hfz89_1); (try clear hfz96_0); (try clear hfz96_1); (try clear p2)
     obtain ⟨kq, x57_40, rfl, HA, HJ40, BK170, BK171, BK172, BK175, BK178, HB⟩ := hcut
     cases kq with
     | zero => exact absurd HA.out (by simp [serinettelaw01_NumberField.j1])
     | succ kj40 =>
      have H := HA.out
      clear HA
      simp only [serinettelaw01_NumberField.j1] at H
      by_cases c185 : x57_40 = true
      ·
       subst c185
       rw [if_pos rfl] at H
       exact absurd (H.trans (congrArg some hr.out)) (by simp)
      ·
       replace c185 := Bool.eq_false_iff.mpr c185
       subst c185
       rw [if_neg (show ¬ (false = true) by decide)] at H
       replace H := Option.bind_eq_some_iff.mp H
       obtain ⟨⟨t207, t208⟩, A1860, H⟩ := H
       (try dsimp only at H)
       have A186 := Aside0.mk A1860
       clear A1860
       replace H := Option.bind_eq_some_iff.mp H
       obtain ⟨⟨t210, t211⟩, A1870, H⟩ := H
       (try dsimp only at H)
       have A187 := Aside0.mk A1870
       clear A1870
       replace H := Option.bind_eq_some_iff.mp H
       obtain ⟨⟨t212, t213⟩, A1880, H⟩ := H
       (try dsimp only at H)
       have A188 := Aside0.mk A1880
       clear A1880
       have HC189 := Aside0.mk H
       clear H
       have hnb190 := NB175_170.out
       have hnc190 := NB170_175.out
       have hnb191 := NB175_171.out
       have hnc191 := NB171_175.out
       have hnb192 := NB175_172.out
       have hnc192 := NB172_175.out
       have hnb193 := NB175_178.out
       have hnc193 := NB178_175.out
       have hcz194_0 : wc.cell? ⟨gb175, 0, none⟩ = some (.int .i64 t173) := (blk_cell BK175.out 0).trans rfl
       have hcz194_1 : wc.cell? ⟨gb175, 1, none⟩ = some (.int .i64 t174) := (blk_cell BK175.out 1).trans rfl
       have hfz194_0 := blk_frozen BK175.out 0
       have hfz194_1 := blk_frozen BK175.out 1
       have hnb195 := NB172_170.out
       have hnc195 := NB170_172.out
       have hnb196 := NB172_171.out
       have hnc196 := NB171_172.out
       have hnb197 := NB172_178.out
       have hnc197 := NB178_172.out
       have hcz198_0 : wc.cell? ⟨gb172, 0, none⟩ = some (.int .i64 a2_0) := (blk_cell BK172.out 0).trans rfl
       have hcz198_1 : wc.cell? ⟨gb172, 1, none⟩ = some (.int .i64 a2_1) := (blk_cell BK172.out 1).trans rfl
       have hfz198_0 := blk_frozen BK172.out 0
       have hfz198_1 := blk_frozen BK172.out 1
       try go_wp2_with (first | ((with_reducible refine gate_callee (f := 12) rfl ?_); refine goesL_ (some 60) rfl rfl Try.func12 (by kernel_rfl) rfl #[.agg #[.int .i64 t173, .int .i64 t174], .agg #[.int .i64 a2_0, .int .i64 a2_1]] rfl (by (try simp only [mp]); first | done | rfl | (simp only [ld]; rfl)) ?_; (with_reducible refine (ratio_Add.calls kj40 t173 t174 a2_0 a2_1 t207 t208 _ A186.out).mono ?_); rintro e w199 ⟨rfl, hb⟩; refine ⟨_, rfl, ?_⟩; replace BK170 := kb BK170 hb; replace BK171 := kb BK171 hb; replace BK172 := kb BK172 hb; replace BK175 := kb BK175 hb; replace BK178 := kb BK178 hb; replace HB := hs' HB (by repeat first | (with_reducible exact HB.out) | refine bl1 ?_ | (with_reducible refine bset ?_ ‹_›) | exact HB.out) hb; (try clear hb); (try clear hb2); (try clear hk); (try clear hi)) | ((with_reducible refine gate_dst (N := 9) rfl ?_); (try (refine gate_guard (by rfl) ?_; dsimp only)); refine box_event ?hg (N := 9) ?hd (cs := #[.int .i64 0, .int .i64 0]) (t := 24) ?hr ?_; (case hd => rfl); (case hg => rfl); (case hr => first | (go_simp; done) | (go_simp; rfl)); intro gb209 hg w200 hbox hb; have BK209 := Aside0.mk (hbox); have GW209 := bz' HB hg (by repeat first | (with_reducible exact HB.out) | refine bl1 ?_ | (with_reducible refine bset ?_ ‹_›) | exact HB.out); have GE209 := bz' HB hg (by repeat first | (with_reducible exact HB.out) | refine bl1 ?_ | (with_reducible refine bset ?_ ‹_›) | exact HB.out); have NB170_209 := nlk hg BK170; have NB209_170 := ngk hg BK170; have NB171_209 := nlk hg BK171; have NB209_171 := ngk hg BK171; have NB172_209 := nlk hg BK172; have NB209_172 := ngk hg BK172; have NB175_209 := nlk hg BK175; have NB209_175 := ngk hg BK175; have NB178_209 := nlk hg BK178; have NB209_178 := ngk hg BK178; replace BK170 := kb BK170 hb; replace BK171 := kb BK171 hb; replace BK172 := kb BK172 hb; replace BK175 := kb BK175 hb; replace BK178 := kb BK178 hb; replace HB := hs' HB (by repeat first | (with_reducible exact HB.out) | refine bl1 ?_ | (with_reducible refine bset ?_ ‹_›) | exact HB.out) hb; clear hb hbox hg; have hnb201 := NB209_170.out; have hnc201 := NB170_209.out; have hnb202 := NB209_171.out; have hnc202 := NB171_209.out; have hnb203 := NB209_172.out; have hnc203 := NB172_209.out; have hnb204 := NB209_175.out; have hnc204 := NB175_209.out; have hnb205 := NB209_178.out; have hnc205 := NB178_209.out; have hcz206_0 : w200.cell? ⟨gb209, 0, none⟩ = some (.int .i64 0) := (blk_cell BK209.out 0).trans rfl; have hcz206_1 : w200.cell? ⟨gb209, 1, none⟩ = some (.int .i64 0) := (blk_cell BK209.out 1).trans rfl; have hfz206_0 := blk_frozen BK209.out 0; have hfz206_1 := blk_frozen BK209.out 1))
       have n0_ : Aside0 (((w200.setCell ⟨gb209, 0, none⟩ (.int .i64 t207)).setCell ⟨gb209, 1, none⟩ (.int .i64 t208)).heap[gb170]? = some (.cells #[.int .i64 a0_0, .int .i64 a0_1] 24 (0, 0))) := ⟨by refine bk ?_; refine blk_far ?_ NB170_209.out _; refine bk ?_; refine blk_far ?_ NB170_209.out _; refine bk ?_; exact BK170.out⟩
       have n1_ : Aside0 (((w200.setCell ⟨gb209, 0, none⟩ (.int .i64 t207)).setCell ⟨gb209, 1, none⟩ (.int .i64 t208)).heap[gb171]? = some (.cells #[.int .i64 a1_0, .int .i64 a1_1] 24 (0, 0))) := ⟨by refine bk ?_; refine blk_far ?_ NB171_209.out _; refine bk ?_; refine blk_far ?_ NB171_209.out _; refine bk ?_; exact BK171.out⟩
       have n2_ : Aside0 (((w200.setCell ⟨gb209, 0, none⟩ (.int .i64 t207)).setCell ⟨gb209, 1, none⟩ (.int .i64 t208)).heap[gb172]? = some (.cells #[.int .i64 a2_0, .int .i64 a2_1] 24 (0, 0))) := ⟨by refine bk ?_; refine blk_far ?_ NB172_209.out _; refine bk ?_; refine blk_far ?_ NB172_209.out _; refine bk ?_; exact BK172.out⟩
       have n3_ : Aside0 (((w200.setCell ⟨gb209, 0, none⟩ (.int .i64 t207)).setCell ⟨gb209, 1, none⟩ (.int .i64 t208)).heap[gb175]? = some (.cells #[.int .i64 t173, .int .i64 t174] 24 (0, 0))) := ⟨by refine bk ?_; refine blk_far ?_ NB175_209.out _; refine bk ?_; refine blk_far ?_ NB175_209.out _; refine bk ?_; exact BK175.out⟩
       have n4_ : Aside0 (((w200.setCell ⟨gb209, 0, none⟩ (.int .i64 t207)).setCell ⟨gb209, 1, none⟩ (.int .i64 t208)).heap[gb178]? = some (.cells #[.int .i64 t176, .int .i64 t177] 24 (0, 0))) := ⟨by refine bk ?_; refine blk_far ?_ NB178_209.out _; refine bk ?_; refine blk_far ?_ NB178_209.out _; refine bk ?_; exact BK178.out⟩
       have n5_ : Aside0 (((w200.setCell ⟨gb209, 0, none⟩ (.int .i64 t207)).setCell ⟨gb209, 1, none⟩ (.int .i64 t208)).heap[gb209]? = some (.cells #[.int .i64 t207, .int .i64 t208] 24 (0, 0))) := ⟨by refine bk ?_; refine blk_put (cs := #[.int .i64 t207, .int .i64 0]) ?_ 1 _ rfl; refine bk ?_; refine blk_put (cs := #[.int .i64 0, .int .i64 0]) ?_ 0 _ rfl; refine bk ?_; exact BK209.out⟩
       have n6_ : Aside0 (Below w.heap.size w ((w200.setCell ⟨gb209, 0, none⟩ (.int .i64 t207)).setCell ⟨gb209, 1, none⟩ (.int .i64 t208))) := ⟨by repeat first | exact HB.out | refine bset ?_ ‹_› | apply below_alloc | apply pw_below_drewN | apply below_drew1⟩
       (try clear BK170); (try clear BK171); (try clear BK172); (try clear BK175); (try clear BK178); (try clear BK209); (try clear HB)
       generalize ((w200.setCell ⟨gb209, 0, none⟩ (.int .i64 t207)).setCell ⟨gb209, 1, none⟩ (.int .i64 t208)) = w207 at n0_ n1_ n2_ n3_ n4_ n5_ n6_ ⊢
       have BK170 := n0_
       have BK171 := n1_
       have BK172 := n2_
       have BK175 := n3_
       have BK178 := n4_
       have BK209 := n5_
       have HB := n6_
       clear n0_ n1_ n2_ n3_ n4_ n5_ n6_
       replace BK170 := kd BK170
       replace BK171 := kd BK171
       replace BK172 := kd BK172
       replace BK175 := kd BK175
       replace BK178 := kd BK178
       replace BK209 := kd BK209
       replace HB := Aside0.mk (below_drew1 HB.out)
       refine start_ (n := 7) (S := fun w' => w'.cell? ⟨gb170, 0, none⟩ = some (.int .i64 a0_0) ∧ w'.cell? ⟨gb170, 1, none⟩ = some (.int .i64 a0_1) ∧ w'.cell? ⟨gb171, 0, none⟩ = some (.int .i64 a1_0) ∧ w'.cell? ⟨gb171, 1, none⟩ = some (.int .i64 a1_1) ∧ w'.cell? ⟨gb172, 0, none⟩ = some (.int .i64 a2_0) ∧ w'.cell? ⟨gb172, 1, none⟩ = some (.int .i64 a2_1)) (ds := []) (bA 7 0) (by kernel_rfl) rfl rfl ⟨(blk_cell BK170.out 0).trans rfl, (blk_cell BK170.out 1).trans rfl, (blk_cell BK171.out 0).trans rfl, (blk_cell BK171.out 1).trans rfl, (blk_cell BK172.out 0).trans rfl, (blk_cell BK172.out 1).trans rfl⟩ (fun hHeld => ?_)
       generalize w207.drew = w208 at BK170 BK171 BK172 BK175 BK178 BK209 HB hHeld ⊢
       refine take_ (i := 0) (N := some 61) (v := ?_) (a' := ?_) (bA 7 1) rfl rfl (by kernel_rfl) (fun _ _ _ h => h) (Or.inl ⟨by rfl, ?_⟩) hHeld ?_ ?_
       rotate_left
       ·
        rintro w' ⟨s0, s1, s2, s3, s4, s5⟩
        go_simp; with_reducible rfl
       rotate_left
       ·
        simp only [ap]
        rfl
       refine take_ (i := 1) (N := some 62) (v := ?_) (a' := ?_) (bA 7 3) rfl rfl (by kernel_rfl) (fun _ _ _ h => h) (Or.inl ⟨by rfl, ?_⟩) hHeld ?_ ?_
       rotate_left
       ·
        rintro w' ⟨s0, s1, s2, s3, s4, s5⟩
        go_simp; with_reducible rfl
       rotate_left
       ·
        simp only [ap]
        rfl
       refine take_ (i := 2) (N := some 63) (v := ?_) (a' := ?_) (bA 7 7) rfl rfl (by kernel_rfl) (fun _ _ _ h => h) (Or.inl ⟨by rfl, ?_⟩) hHeld ?_ ?_
       rotate_left
       ·
        rintro w' ⟨s0, s1, s2, s3, s4, s5⟩
        go_simp; with_reducible rfl
       rotate_left
       ·
        simp only [ap]
        rfl
       refine join_ (σ := Nat) 1 (bA 7 63) (fun s_ => [(64, .agg #[.int .i64 t210, .int .i64 t211]), (65, .agg #[.int .i64 t212, .int .i64 t213]), (10, .pointer (some ⟨s_, 0, none⟩))]) (fun s_ w' => (w'.cell? ⟨gb170, 0, none⟩ = some (.int .i64 a0_0) ∧ w'.cell? ⟨gb170, 1, none⟩ = some (.int .i64 a0_1) ∧ w'.cell? ⟨gb171, 0, none⟩ = some (.int .i64 a1_0) ∧ w'.cell? ⟨gb171, 1, none⟩ = some (.int .i64 a1_1) ∧ w'.cell? ⟨gb172, 0, none⟩ = some (.int .i64 a2_0) ∧ w'.cell? ⟨gb172, 1, none⟩ = some (.int .i64 a2_1)) ∧ (w'.heap[gb170]? = some (.cells #[.int .i64 a0_0, .int .i64 a0_1] 24 (0, 0))) ∧ (w'.heap[gb171]? = some (.cells #[.int .i64 a1_0, .int .i64 a1_1] 24 (0, 0))) ∧ (w'.heap[gb172]? = some (.cells #[.int .i64 a2_0, .int .i64 a2_1] 24 (0, 0))) ∧ (w'.heap[gb175]? = some (.cells #[.int .i64 t173, .int .i64 t174] 24 (0, 0))) ∧ (w'.heap[gb178]? = some (.cells #[.int .i64 t176, .int .i64 t177] 24 (0, 0))) ∧ (w'.heap[gb209]? = some (.cells #[.int .i64 t207, .int .i64 t208] 24 (0, 0))) ∧ (w'.heap[s_]? = some (.cells #[.int .i64 0, .int .i64 0] 24 (0, 0))) ∧ (w.heap.size ≤ s_) ∧ (w.heap.size ≤ s_) ∧ (gb170 ≠ s_) ∧ (s_ ≠ gb170) ∧ (gb171 ≠ s_) ∧ (s_ ≠ gb171) ∧ (gb172 ≠ s_) ∧ (s_ ≠ gb172) ∧ (gb175 ≠ s_) ∧ (s_ ≠ gb175) ∧ (gb178 ≠ s_) ∧ (s_ ≠ gb178) ∧ (gb209 ≠ s_) ∧ (s_ ≠ gb209) ∧ (Below w.heap.size w w')) ?_ ?_
       rotate_left
       ·
        intro hCont
        refine two_ (i := 3) (j := 5) (Ni := some 64) (Nj := some 10) (bA 7 15) (bA 7 39) rfl rfl rfl rfl (by kernel_rfl) (by decide) (by decide) (fun K hK => ?_) (fun K hK => ?_)
        ·
         skip
         refine goes_ Try.func12 (by kernel_rfl) rfl #[.agg #[.int .i64 a1_0, .int .i64 a1_1], .agg #[.int .i64 a2_0, .int .i64 a2_1]] (by rfl) rfl rfl (by (try simp only [mp]); first | done | rfl | (simp only [ld]; rfl)) ?_
         with_reducible refine (ratio_Add.calls kj40 a1_0 a1_1 a2_0 a2_1 t210 t211 _ A187.out).mono ?_
         rintro e w209 ⟨rfl, hb⟩
         refine ⟨_, rfl, ?_⟩
         replace BK170 := kb BK170 hb
         replace BK171 := kb BK171 hb
         replace BK172 := kb BK172 hb
         replace BK175 := kb BK175 hb
         replace BK178 := kb BK178 hb
         replace BK209 := kb BK209 hb
         replace HB := hs' HB (by repeat first | (with_reducible exact HB.out) | refine bl1 ?_ | (with_reducible refine bset ?_ ‹_›) | exact HB.out) hb
         (try clear hb); (try clear hb2); (try clear hk); (try clear hi)
         refine hK.out _ _ ⟨(blk_cell BK170.out 0).trans rfl, (blk_cell BK170.out 1).trans rfl, (blk_cell BK171.out 0).trans rfl, (blk_cell BK171.out 1).trans rfl, (blk_cell BK172.out 0).trans rfl, (blk_cell BK172.out 1).trans rfl⟩ (fun hHeld => ?_)
         clear hK K
         refine norm_ (a' := ?_) ?_ ?_
         rotate_left
         ·
          show Act.put _ (some 64) _ = _
          simp only [ap]; rfl
         refine two_ (i := 4) (j := 5) (Ni := some 65) (Nj := some 10) (bA 7 31) (bA 7 47) rfl rfl rfl rfl (by kernel_rfl) (by decide) (by decide) (fun K hK => ?_) (fun K hK => ?_)
         ·
          skip
          refine goes_ Try.func12 (by kernel_rfl) rfl #[.agg #[.int .i64 a0_0, .int .i64 a0_1], .agg #[.int .i64 t210, .int .i64 t211]] (by rfl) rfl rfl (by (try simp only [mp]); first | done | rfl | (simp only [ld]; rfl)) ?_
          with_reducible refine (ratio_Add.calls kj40 a0_0 a0_1 t210 t211 t212 t213 _ A188.out).mono ?_
          rintro e w210 ⟨rfl, hb⟩
          refine ⟨_, rfl, ?_⟩
          replace BK170 := kb BK170 hb
          replace BK171 := kb BK171 hb
          replace BK172 := kb BK172 hb
          replace BK175 := kb BK175 hb
          replace BK178 := kb BK178 hb
          replace BK209 := kb BK209 hb
          replace HB := hs' HB (by repeat first | (with_reducible exact HB.out) | refine bl1 ?_ | (with_reducible refine bset ?_ ‹_›) | exact HB.out) hb
          (try clear hb); (try clear hb2); (try clear hk); (try clear hi)
          refine hK.out _ _ ⟨(blk_cell BK170.out 0).trans rfl, (blk_cell BK170.out 1).trans rfl, (blk_cell BK171.out 0).trans rfl, (blk_cell BK171.out 1).trans rfl, (blk_cell BK172.out 0).trans rfl, (blk_cell BK172.out 1).trans rfl⟩ (fun hHeld => ?_)
          clear hK K
          refine norm_ (a' := ?_) ?_ ?_
          rotate_left
          ·
           show Act.put _ (some 65) _ = _
           simp only [ap]; rfl
          refine one_ (i := 5) (N := some 10) (bA 7 63) rfl rfl (by kernel_rfl) (by decide) (fun K hK => ?_)
          refine box_step ?hg (N := 10) ?hd (cs := #[.int .i64 0, .int .i64 0]) (t := 24) ?hr ?_; (case hd => rfl); (case hg => rfl); (case hr => first | (go_simp; done) | (go_simp; rfl))
          intro gb214 hg w211 hbox hb
          have BK214 := Aside0.mk (hbox)
          have GW214 := bz' HB hg (by repeat first | (with_reducible exact HB.out) | refine bl1 ?_ | (with_reducible refine bset ?_ ‹_›) | exact HB.out)
          have GE214 := bz' HB hg (by repeat first | (with_reducible exact HB.out) | refine bl1 ?_ | (with_reducible refine bset ?_ ‹_›) | exact HB.out)
          have NB170_214 := nlk hg BK170
          have NB214_170 := ngk hg BK170
          have NB171_214 := nlk hg BK171
          have NB214_171 := ngk hg BK171
          have NB172_214 := nlk hg BK172
          have NB214_172 := ngk hg BK172
          have NB175_214 := nlk hg BK175
          have NB214_175 := ngk hg BK175
          have NB178_214 := nlk hg BK178
          have NB214_178 := ngk hg BK178
          have NB209_214 := nlk hg BK209
          have NB214_209 := ngk hg BK209
          replace BK170 := kb BK170 hb
          replace BK171 := kb BK171 hb
          replace BK172 := kb BK172 hb
          replace BK175 := kb BK175 hb
          replace BK178 := kb BK178 hb
          replace BK209 := kb BK209 hb
          replace HB := hs' HB (by repeat first | (with_reducible exact HB.out) | refine bl1 ?_ | (with_reducible refine bset ?_ ‹_›) | exact HB.out) hb
          clear hb hbox hg
          refine hK.out _ _ ⟨(blk_cell BK170.out 0).trans rfl, (blk_cell BK170.out 1).trans rfl, (blk_cell BK171.out 0).trans rfl, (blk_cell BK171.out 1).trans rfl, (blk_cell BK172.out 0).trans rfl, (blk_cell BK172.out 1).trans rfl⟩ (fun hHeld => ?_)
          clear hK K
          refine norm_ (a' := ?_) ?_ ?_
          rotate_left
          ·
           show Act.put _ (some 10) _ = _
           simp only [ap]; rfl
          exact norm_ (by simp only [putAll, Act.put, List.setIfInBounds_toArray, List.set_cons_zero, List.set_cons_succ]) (hCont (gb214) _ ⟨hHeld, (bk BK170.out), (bk BK171.out), (bk BK172.out), (bk BK175.out), (bk BK178.out), (bk BK209.out), (bk BK214.out), GW214.out, GE214.out, NB170_214.out, NB214_170.out, NB171_214.out, NB214_171.out, NB172_214.out, NB214_172.out, NB175_214.out, NB214_175.out, NB178_214.out, NB214_178.out, NB209_214.out, NB214_209.out, (by repeat first | (with_reducible exact HB.out) | refine bl1 ?_ | (with_reducible refine bset ?_ ‹_›) | exact HB.out)⟩)
         ·
          skip
          refine box_step ?hg (N := 10) ?hd (cs := #[.int .i64 0, .int .i64 0]) (t := 24) ?hr ?_; (case hd => rfl); (case hg => rfl); (case hr => first | (go_simp; done) | (go_simp; rfl))
          intro gb214 hg w210 hbox hb
          have BK214 := Aside0.mk (hbox)
          have GW214 := bz' HB hg (by repeat first | (with_reducible exact HB.out) | refine bl1 ?_ | (with_reducible refine bset ?_ ‹_›) | exact HB.out)
          have GE214 := bz' HB hg (by repeat first | (with_reducible exact HB.out) | refine bl1 ?_ | (with_reducible refine bset ?_ ‹_›) | exact HB.out)
          have NB170_214 := nlk hg BK170
          have NB214_170 := ngk hg BK170
          have NB171_214 := nlk hg BK171
          have NB214_171 := ngk hg BK171
          have NB172_214 := nlk hg BK172
          have NB214_172 := ngk hg BK172
          have NB175_214 := nlk hg BK175
          have NB214_175 := ngk hg BK175
          have NB178_214 := nlk hg BK178
          have NB214_178 := ngk hg BK178
          have NB209_214 := nlk hg BK209
          have NB214_209 := ngk hg BK209
          replace BK170 := kb BK170 hb
          replace BK171 := kb BK171 hb
          replace BK172 := kb BK172 hb
          replace BK175 := kb BK175 hb
          replace BK178 := kb BK178 hb
          replace BK209 := kb BK209 hb
          replace HB := hs' HB (by repeat first | (with_reducible exact HB.out) | refine bl1 ?_ | (with_reducible refine bset ?_ ‹_›) | exact HB.out) hb
          clear hb hbox hg
          refine hK.out _ _ ⟨(blk_cell BK170.out 0).trans rfl, (blk_cell BK170.out 1).trans rfl, (blk_cell BK171.out 0).trans rfl, (blk_cell BK171.out 1).trans rfl, (blk_cell BK172.out 0).trans rfl, (blk_cell BK172.out 1).trans rfl⟩ (fun hHeld => ?_)
          clear hK K
          refine norm_ (a' := ?_) ?_ ?_
          rotate_left
          ·
           show Act.put _ (some 10) _ = _
           simp only [ap]; rfl
          refine one_ (i := 4) (N := some 65) (bA 7 63) rfl rfl (by kernel_rfl) (by decide) (fun K hK => ?_)
          refine goes_ Try.func12 (by kernel_rfl) rfl #[.agg #[.int .i64 a0_0, .int .i64 a0_1], .agg #[.int .i64 t210, .int .i64 t211]] (by rfl) rfl rfl (by (try simp only [mp]); first | done | rfl | (simp only [ld]; rfl)) ?_
          with_reducible refine (ratio_Add.calls kj40 a0_0 a0_1 t210 t211 t212 t213 _ A188.out).mono ?_
          rintro e w211 ⟨rfl, hb⟩
          refine ⟨_, rfl, ?_⟩
          replace BK170 := kb BK170 hb
          replace BK171 := kb BK171 hb
          replace BK172 := kb BK172 hb
          replace BK175 := kb BK175 hb
          replace BK178 := kb BK178 hb
          replace BK209 := kb BK209 hb
          replace BK214 := kb BK214 hb
          replace HB := hs' HB (by repeat first | (with_reducible exact HB.out) | refine bl1 ?_ | (with_reducible refine bset ?_ ‹_›) | exact HB.out) hb
          (try clear hb); (try clear hb2); (try clear hk); (try clear hi)
          refine hK.out _ _ ⟨(blk_cell BK170.out 0).trans rfl, (blk_cell BK170.out 1).trans rfl, (blk_cell BK171.out 0).trans rfl, (blk_cell BK171.out 1).trans rfl, (blk_cell BK172.out 0).trans rfl, (blk_cell BK172.out 1).trans rfl⟩ (fun hHeld => ?_)
          clear hK K
          refine norm_ (a' := ?_) ?_ ?_
          rotate_left
          ·
           show Act.put _ (some 65) _ = _
           simp only [ap]; rfl
          exact norm_ (by simp only [putAll, Act.put, List.setIfInBounds_toArray, List.set_cons_zero, List.set_cons_succ]) (hCont (gb214) _ ⟨hHeld, (bk BK170.out), (bk BK171.out), (bk BK172.out), (bk BK175.out), (bk BK178.out), (bk BK209.out), (bk BK214.out), GW214.out, GE214.out, NB170_214.out, NB214_170.out, NB171_214.out, NB214_171.out, NB172_214.out, NB214_172.out, NB175_214.out, NB214_175.out, NB178_214.out, NB214_178.out, NB209_214.out, NB214_209.out, (by repeat first | (with_reducible exact HB.out) | refine bl1 ?_ | (with_reducible refine bset ?_ ‹_›) | exact HB.out)⟩)
        ·
         skip
         refine box_step ?hg (N := 10) ?hd (cs := #[.int .i64 0, .int .i64 0]) (t := 24) ?hr ?_; (case hd => rfl); (case hg => rfl); (case hr => first | (go_simp; done) | (go_simp; rfl))
         intro gb214 hg w209 hbox hb
         have BK214 := Aside0.mk (hbox)
         have GW214 := bz' HB hg (by repeat first | (with_reducible exact HB.out) | refine bl1 ?_ | (with_reducible refine bset ?_ ‹_›) | exact HB.out)
         have GE214 := bz' HB hg (by repeat first | (with_reducible exact HB.out) | refine bl1 ?_ | (with_reducible refine bset ?_ ‹_›) | exact HB.out)
         have NB170_214 := nlk hg BK170
         have NB214_170 := ngk hg BK170
         have NB171_214 := nlk hg BK171
         have NB214_171 := ngk hg BK171
         have NB172_214 := nlk hg BK172
         have NB214_172 := ngk hg BK172
         have NB175_214 := nlk hg BK175
         have NB214_175 := ngk hg BK175
         have NB178_214 := nlk hg BK178
         have NB214_178 := ngk hg BK178
         have NB209_214 := nlk hg BK209
         have NB214_209 := ngk hg BK209
         replace BK170 := kb BK170 hb
         replace BK171 := kb BK171 hb
         replace BK172 := kb BK172 hb
         replace BK175 := kb BK175 hb
         replace BK178 := kb BK178 hb
         replace BK209 := kb BK209 hb
         replace HB := hs' HB (by repeat first | (with_reducible exact HB.out) | refine bl1 ?_ | (with_reducible refine bset ?_ ‹_›) | exact HB.out) hb
         clear hb hbox hg
         refine hK.out _ _ ⟨(blk_cell BK170.out 0).trans rfl, (blk_cell BK170.out 1).trans rfl, (blk_cell BK171.out 0).trans rfl, (blk_cell BK171.out 1).trans rfl, (blk_cell BK172.out 0).trans rfl, (blk_cell BK172.out 1).trans rfl⟩ (fun hHeld => ?_)
         clear hK K
         refine norm_ (a' := ?_) ?_ ?_
         rotate_left
         ·
          show Act.put _ (some 10) _ = _
          simp only [ap]; rfl
         refine one_ (i := 3) (N := some 64) (bA 7 47) rfl rfl (by kernel_rfl) (by decide) (fun K hK => ?_)
         refine goes_ Try.func12 (by kernel_rfl) rfl #[.agg #[.int .i64 a1_0, .int .i64 a1_1], .agg #[.int .i64 a2_0, .int .i64 a2_1]] (by rfl) rfl rfl (by (try simp only [mp]); first | done | rfl | (simp only [ld]; rfl)) ?_
         with_reducible refine (ratio_Add.calls kj40 a1_0 a1_1 a2_0 a2_1 t210 t211 _ A187.out).mono ?_
         rintro e w210 ⟨rfl, hb⟩
         refine ⟨_, rfl, ?_⟩
         replace BK170 := kb BK170 hb
         replace BK171 := kb BK171 hb
         replace BK172 := kb BK172 hb
         replace BK175 := kb BK175 hb
         replace BK178 := kb BK178 hb
         replace BK209 := kb BK209 hb
         replace BK214 := kb BK214 hb
         replace HB := hs' HB (by repeat first | (with_reducible exact HB.out) | refine bl1 ?_ | (with_reducible refine bset ?_ ‹_›) | exact HB.out) hb
         (try clear hb); (try clear hb2); (try clear hk); (try clear hi)
         refine hK.out _ _ ⟨(blk_cell BK170.out 0).trans rfl, (blk_cell BK170.out 1).trans rfl, (blk_cell BK171.out 0).trans rfl, (blk_cell BK171.out 1).trans rfl, (blk_cell BK172.out 0).trans rfl, (blk_cell BK172.out 1).trans rfl⟩ (fun hHeld => ?_)
         clear hK K
         refine norm_ (a' := ?_) ?_ ?_
         rotate_left
         ·
          show Act.put _ (some 64) _ = _
          simp only [ap]; rfl
         refine one_ (i := 4) (N := some 65) (bA 7 63) rfl rfl (by kernel_rfl) (by decide) (fun K hK => ?_)
         refine goes_ Try.func12 (by kernel_rfl) rfl #[.agg #[.int .i64 a0_0, .int .i64 a0_1], .agg #[.int .i64 t210, .int .i64 t211]] (by rfl) rfl rfl (by (try simp only [mp]); first | done | rfl | (simp only [ld]; rfl)) ?_
         with_reducible refine (ratio_Add.calls kj40 a0_0 a0_1 t210 t211 t212 t213 _ A188.out).mono ?_
         rintro e w211 ⟨rfl, hb⟩
         refine ⟨_, rfl, ?_⟩
         replace BK170 := kb BK170 hb
         replace BK171 := kb BK171 hb
         replace BK172 := kb BK172 hb
         replace BK175 := kb BK175 hb
         replace BK178 := kb BK178 hb
         replace BK209 := kb BK209 hb
         replace BK214 := kb BK214 hb
         replace HB := hs' HB (by repeat first | (with_reducible exact HB.out) | refine bl1 ?_ | (with_reducible refine bset ?_ ‹_›) | exact HB.out) hb
         (try clear hb); (try clear hb2); (try clear hk); (try clear hi)
         refine hK.out _ _ ⟨(blk_cell BK170.out 0).trans rfl, (blk_cell BK170.out 1).trans rfl, (blk_cell BK171.out 0).trans rfl, (blk_cell BK171.out 1).trans rfl, (blk_cell BK172.out 0).trans rfl, (blk_cell BK172.out 1).trans rfl⟩ (fun hHeld => ?_)
         clear hK K
         refine norm_ (a' := ?_) ?_ ?_
         rotate_left
         ·
          show Act.put _ (some 65) _ = _
          simp only [ap]; rfl
         exact norm_ (by simp only [putAll, Act.put, List.setIfInBounds_toArray, List.set_cons_zero, List.set_cons_succ]) (hCont (gb214) _ ⟨hHeld, (bk BK170.out), (bk BK171.out), (bk BK172.out), (bk BK175.out), (bk BK178.out), (bk BK209.out), (bk BK214.out), GW214.out, GE214.out, NB170_214.out, NB214_170.out, NB171_214.out, NB214_171.out, NB172_214.out, NB214_172.out, NB175_214.out, NB214_175.out, NB178_214.out, NB214_178.out, NB209_214.out, NB214_209.out, (by repeat first | (with_reducible exact HB.out) | refine bl1 ?_ | (with_reducible refine bset ?_ ‹_›) | exact HB.out)⟩)
       rintro gb214 w212 ⟨hS_, h0_, h1_, h2_, h3_, h4_, h5_, h6_, h7_, h8_, h9_, h10_, h11_, h12_, h13_, h14_, h15_, h16_, h17_, h18_, h19_, h20_, h21_⟩
       have n0_ : Aside0 (w212.heap[gb170]? = some (.cells #[.int .i64 a0_0, .int .i64 a0_1] 24 (0, 0))) := ⟨h0_⟩
       have n1_ : Aside0 (w212.heap[gb171]? = some (.cells #[.int .i64 a1_0, .int .i64 a1_1] 24 (0, 0))) := ⟨h1_⟩
       have n2_ : Aside0 (w212.heap[gb172]? = some (.cells #[.int .i64 a2_0, .int .i64 a2_1] 24 (0, 0))) := ⟨h2_⟩
       have n3_ : Aside0 (w212.heap[gb175]? = some (.cells #[.int .i64 t173, .int .i64 t174] 24 (0, 0))) := ⟨h3_⟩
       have n4_ : Aside0 (w212.heap[gb178]? = some (.cells #[.int .i64 t176, .int .i64 t177] 24 (0, 0))) := ⟨h4_⟩
       have n5_ : Aside0 (w212.heap[gb209]? = some (.cells #[.int .i64 t207, .int .i64 t208] 24 (0, 0))) := ⟨h5_⟩
       have n6_ : Aside0 (w212.heap[gb214]? = some (.cells #[.int .i64 0, .int .i64 0] 24 (0, 0))) := ⟨h6_⟩
       have n7_ : Aside0 (w.heap.size ≤ gb214) := ⟨h7_⟩
       have n8_ : Aside0 (w.heap.size ≤ gb214) := ⟨h8_⟩
       have n9_ : Aside0 (gb170 ≠ gb214) := ⟨h9_⟩
       have n10_ : Aside0 (gb214 ≠ gb170) := ⟨h10_⟩
       have n11_ : Aside0 (gb171 ≠ gb214) := ⟨h11_⟩
       have n12_ : Aside0 (gb214 ≠ gb171) := ⟨h12_⟩
       have n13_ : Aside0 (gb172 ≠ gb214) := ⟨h13_⟩
       have n14_ : Aside0 (gb214 ≠ gb172) := ⟨h14_⟩
       have n15_ : Aside0 (gb175 ≠ gb214) := ⟨h15_⟩
       have n16_ : Aside0 (gb214 ≠ gb175) := ⟨h16_⟩
       have n17_ : Aside0 (gb178 ≠ gb214) := ⟨h17_⟩
       have n18_ : Aside0 (gb214 ≠ gb178) := ⟨h18_⟩
       have n19_ : Aside0 (gb209 ≠ gb214) := ⟨h19_⟩
       have n20_ : Aside0 (gb214 ≠ gb209) := ⟨h20_⟩
       have n21_ : Aside0 (Below w.heap.size w w212) := ⟨h21_⟩
       clear BK170 BK171 BK172 BK175 BK178 BK209 HB h0_ h1_ h2_ h3_ h4_ h5_ h6_ h7_ h8_ h9_ h10_ h11_ h12_ h13_ h14_ h15_ h16_ h17_ h18_ h19_ h20_ h21_
       have BK170 := n0_
       have BK171 := n1_
       have BK172 := n2_
       have BK175 := n3_
       have BK178 := n4_
       have BK209 := n5_
       have BK214 := n6_
       have GW214 := n7_
       have GE214 := n8_
       have NB170_214 := n9_
       have NB214_170 := n10_
       have NB171_214 := n11_
       have NB214_171 := n12_
       have NB172_214 := n13_
       have NB214_172 := n14_
       have NB175_214 := n15_
       have NB214_175 := n16_
       have NB178_214 := n17_
       have NB214_178 := n18_
       have NB209_214 := n19_
       have NB214_209 := n20_
       have HB := n21_
       clear n0_ n1_ n2_ n3_ n4_ n5_ n6_ n7_ n8_ n9_ n10_ n11_ n12_ n13_ n14_ n15_ n16_ n17_ n18_ n19_ n20_ n21_
       have hHeld : w212.cell? ⟨gb170, 0, none⟩ = some (.int .i64 a0_0) ∧ w212.cell? ⟨gb170, 1, none⟩ = some (.int .i64 a0_1) ∧ w212.cell? ⟨gb171, 0, none⟩ = some (.int .i64 a1_0) ∧ w212.cell? ⟨gb171, 1, none⟩ = some (.int .i64 a1_1) ∧ w212.cell? ⟨gb172, 0, none⟩ = some (.int .i64 a2_0) ∧ w212.cell? ⟨gb172, 1, none⟩ = some (.int .i64 a2_1) := hS_
       refine norm_ (a' := ?_) ?_ ?_
       rotate_left
       ·
        simp only [putAll, Act.put, List.setIfInBounds_toArray, List.set_cons_zero, List.set_cons_succ]
        rfl
       refine one_ (i := 6) (N := none) (bA 7 127) rfl rfl (by kernel_rfl) (by decide) (fun K hK => ?_)
       have hs213 : w212.cell? ⟨gb214, 0, none⟩ = some (.int .i64 0) := (blk_cell BK214.out 0).trans rfl
       have hfs213 := blk_frozen BK214.out 0
       have hns213_0 := NB170_214.out
       have hns213_1 := NB171_214.out
       have hns213_2 := NB172_214.out
       have hns213_3 := NB175_214.out
       have hns213_4 := NB178_214.out
       have hns213_5 := NB209_214.out
       have hms213_0 := NB214_170.out
       have hms213_1 := NB214_171.out
       have hms213_2 := NB214_172.out
       have hms213_3 := NB214_175.out
       have hms213_4 := NB214_178.out
       have hms213_5 := NB214_209.out
       have hs214 : w212.cell? ⟨gb214, 1, none⟩ = some (.int .i64 0) := (blk_cell BK214.out 1).trans rfl
       have hfs214 := blk_frozen BK214.out 1
       have hns214_0 := NB170_214.out
       have hns214_1 := NB171_214.out
       have hns214_2 := NB172_214.out
       have hns214_3 := NB175_214.out
       have hns214_4 := NB178_214.out
       have hns214_5 := NB209_214.out
       have hms214_0 := NB214_170.out
       have hms214_1 := NB214_171.out
       have hms214_2 := NB214_172.out
       have hms214_3 := NB214_175.out
       have hms214_4 := NB214_178.out
       have hms214_5 := NB214_209.out
       refine skip_ (w1 := ?_) (by rfl) rfl ?_ ?_
       rotate_left
       ·
        go_simp
        rfl
       refine hK.out _ _ ⟨((cell_far (p := ⟨gb214, _, none⟩) NB170_214.out _).trans (((cell_far (p := ⟨gb214, _, none⟩) NB170_214.out _).trans (hHeld.1)))), ((cell_far (p := ⟨gb214, _, none⟩) NB170_214.out _).trans (((cell_far (p := ⟨gb214, _, none⟩) NB170_214.out _).trans (hHeld.2.1)))), ((cell_far (p := ⟨gb214, _, none⟩) NB171_214.out _).trans (((cell_far (p := ⟨gb214, _, none⟩) NB171_214.out _).trans (hHeld.2.2.1)))), ((cell_far (p := ⟨gb214, _, none⟩) NB171_214.out _).trans (((cell_far (p := ⟨gb214, _, none⟩) NB171_214.out _).trans (hHeld.2.2.2.1)))), ((cell_far (p := ⟨gb214, _, none⟩) NB172_214.out _).trans (((cell_far (p := ⟨gb214, _, none⟩) NB172_214.out _).trans (hHeld.2.2.2.2.1)))), ((cell_far (p := ⟨gb214, _, none⟩) NB172_214.out _).trans (((cell_far (p := ⟨gb214, _, none⟩) NB172_214.out _).trans (hHeld.2.2.2.2.2))))⟩ (fun hHeld => ?_)
       clear hK K
       refine done_ (by kernel_rfl) ?_
       go_upto_region 9 with (fail)
       go_cut [74] (fun v74 wc => ∃ (kq : Nat) (x74_188 : Bool), v74 = .bool x74_188 ∧ Aside0 (serinettelaw01_NumberField.j2 kq x74_188 a0_0 a0_1 a1_0 a1_1 a2_0 a2_1 = some r) ∧ Aside0 (kq ≤ kj40) ∧ Aside0 (wc.heap[gb170]? = some (.cells #[.int .i64 a0_0, .int .i64 a0_1] 24 (0, 0))) ∧ Aside0 (wc.heap[gb171]? = some (.cells #[.int .i64 a1_0, .int .i64 a1_1] 24 (0, 0))) ∧ Aside0 (wc.heap[gb172]? = some (.cells #[.int .i64 a2_0, .int .i64 a2_1] 24 (0, 0))) ∧ Aside0 (wc.heap[gb175]? = some (.cells #[.int .i64 t173, .int .i64 t174] 24 (0, 0))) ∧ Aside0 (wc.heap[gb178]? = some (.cells #[.int .i64 t176, .int .i64 t177] 24 (0, 0))) ∧ Aside0 (wc.heap[gb209]? = some (.cells #[.int .i64 t207, .int .i64 t208] 24 (0, 0))) ∧ Aside0 (wc.heap[gb214]? = some (.cells #[.int .i64 t212, .int .i64 t213] 24 (0, 0))) ∧ Aside0 (Below w.heap.size w wc))
       case first =>
        have H := HC189.out
        clear HC189
        obtain ⟨y215, hy215⟩ : ∃ y_ : List (S24), y_ = (([(⟨t207, t208⟩ : S24), (⟨t212, t213⟩ : S24)] : List (S24))) := ⟨_, rfl⟩
        replace H : ((serinettelaw01_numbers.f kj40 y215).bind fun t218 => (if t218 = true then (serinettelaw01_NumberField.j2 kj40 (!(t207 == t212) || (!(t208 == t213))) a0_0 a0_1 a1_0 a1_1 a2_0 a2_1) else (serinettelaw01_NumberField.j2 kj40 false a0_0 a0_1 a1_0 a1_1 a2_0 a2_1))) = some r := by first | (rw [hy215]; with_reducible exact H) | (have H2_ := (Option.bind_some _ _).symm.trans H; rw [hy215]; with_reducible exact H2_) | (have H2_ := (Option.bind_some _ _).symm.trans H; with_reducible exact H2_) | with_reducible exact H | (rw [hy215]; exact H) | exact H
        have Ny215 := Aside0.mk hy215
        clear hy215
        replace H := Option.bind_eq_some_iff.mp H
        obtain ⟨t218, A2150, H⟩ := H
        (try dsimp only at H)
        have A215 := Aside0.mk A2150
        clear A2150
        by_cases c216 : t218 = true
        ·
         subst c216
         rw [if_pos rfl] at H
         have H' := Aside0.mk H
         clear H
         have hnb217 := NB209_170.out
         have hnc217 := NB170_209.out
         have hnb218 := NB209_171.out
         have hnc218 := NB171_209.out
         have hnb219 := NB209_172.out
         have hnc219 := NB172_209.out
         have hnb220 := NB209_175.out
         have hnc220 := NB175_209.out
         have hnb221 := NB209_178.out
         have hnc221 := NB178_209.out
         have hnb222 := NB209_214.out
         have hnc222 := NB214_209.out
         have hcz223_0 : w212.cell? ⟨gb209, 0, none⟩ = some (.int .i64 t207) := (blk_cell BK209.out 0).trans rfl
         have hcz223_1 : w212.cell? ⟨gb209, 1, none⟩ = some (.int .i64 t208) := (blk_cell BK209.out 1).trans rfl
         have hfz223_0 := blk_frozen BK209.out 0
         have hfz223_1 := blk_frozen BK209.out 1
         have hnb224 := NB214_170.out
         have hnc224 := NB170_214.out
         have hnb225 := NB214_171.out
         have hnc225 := NB171_214.out
         have hnb226 := NB214_172.out
         have hnc226 := NB172_214.out
         have hnb227 := NB214_175.out
         have hnc227 := NB175_214.out
         have hnb228 := NB214_178.out
         have hnc228 := NB178_214.out
         have hcz229_0 : w212.cell? ⟨gb214, 0, none⟩ = some (.int .i64 0) := (blk_cell BK214.out 0).trans rfl
         have hcz229_1 : w212.cell? ⟨gb214, 1, none⟩ = some (.int .i64 0) := (blk_cell BK214.out 1).trans rfl
         have hfz229_0 := blk_frozen BK214.out 0
         have hfz229_1 := blk_frozen BK214.out 1
         go_wp2_with (first | ((with_reducible refine gate_dst (N := 68) rfl ?_); (try (refine gate_guard (by rfl) ?_; dsimp only)); refine Kd.R_lit k24 _ 24 ?hg (N := 68) ?hd (xs := ([(⟨t207, t208⟩ : S24), (⟨t212, t213⟩ : S24)] : List (S24))) (inner := [.int .i64 t207, .int .i64 t208, .int .i64 t212, .int .i64 t213]) (ok := fun _ => True) (okp := fun _ => True) ?hr ?hp (fun _ hk => hk) trivial (Below.refl _ _) (Nat.le_refl _) (by simp) ?_; (case hd => rfl); (case hg => rfl); (case hr => first | (go_simp; done) | (go_simp; rfl)); (case hp => exact (Reps.c2 (show Kd.M k24 _ _ _ (⟨t207, t208⟩ : S24) [.int .i64 t207, .int .i64 t208] from (k24_mkM _ _ _ (⟨t207, t208⟩ : S24) )) (Reps.c2 (show Kd.M k24 _ _ _ (⟨t212, t213⟩ : S24) [.int .i64 t212, .int .i64 t213] from (k24_mkM _ _ _ (⟨t212, t213⟩ : S24) )) (Reps.none _ _)))); intro v216 w230 ho231 hb hg_ hnew_; clear hg_ hnew_; (first | rw [← Ny215.out] at ho231 | (simp only [Int.reduceToNat] at ho231; rw [← Ny215.out] at ho231)); have HO217 := Aside0.mk (Kd.R_lower (Kd.R_newB (Kd.R_newB (Kd.R_newB (Kd.R_newB (Kd.R_newB (Kd.R_newB (Kd.R_newB ho231 (g := gb170) (o := .cells #[.int .i64 a0_0, .int .i64 a0_1] 24 (0, 0)) (by refine bk ?_; refine blk_far ?_ NB170_214.out _; refine bk ?_; refine blk_far ?_ NB170_214.out _; refine bk ?_; exact BK170.out)) (g := gb171) (o := .cells #[.int .i64 a1_0, .int .i64 a1_1] 24 (0, 0)) (by refine bk ?_; refine blk_far ?_ NB171_214.out _; refine bk ?_; refine blk_far ?_ NB171_214.out _; refine bk ?_; exact BK171.out)) (g := gb172) (o := .cells #[.int .i64 a2_0, .int .i64 a2_1] 24 (0, 0)) (by refine bk ?_; refine blk_far ?_ NB172_214.out _; refine bk ?_; refine blk_far ?_ NB172_214.out _; refine bk ?_; exact BK172.out)) (g := gb175) (o := .cells #[.int .i64 t173, .int .i64 t174] 24 (0, 0)) (by refine bk ?_; refine blk_far ?_ NB175_214.out _; refine bk ?_; refine blk_far ?_ NB175_214.out _; refine bk ?_; exact BK175.out)) (g := gb178) (o := .cells #[.int .i64 t176, .int .i64 t177] 24 (0, 0)) (by refine bk ?_; refine blk_far ?_ NB178_214.out _; refine bk ?_; refine blk_far ?_ NB178_214.out _; refine bk ?_; exact BK178.out)) (g := gb209) (o := .cells #[.int .i64 t207, .int .i64 t208] 24 (0, 0)) (by refine bk ?_; refine blk_far ?_ NB209_214.out _; refine bk ?_; refine blk_far ?_ NB209_214.out _; refine bk ?_; exact BK209.out)) (g := gb214) (o := .cells #[.int .i64 t212, .int .i64 t213] 24 (0, 0)) (by refine bk ?_; refine blk_put (cs := #[.int .i64 t212, .int .i64 0]) ?_ 1 _ rfl; refine bk ?_; refine blk_put (cs := #[.int .i64 0, .int .i64 0]) ?_ 0 _ rfl; refine bk ?_; exact BK214.out)) (below_size (by repeat first | (with_reducible exact HB.out) | refine bl1 ?_ | (with_reducible refine bset ?_ ‹_›) | exact HB.out))); replace BK170 := Aside0.mk (blk_below (g := gb170) (o := .cells #[.int .i64 a0_0, .int .i64 a0_1] 24 (0, 0)) (by refine bk ?_; refine blk_far ?_ NB170_214.out _; refine bk ?_; refine blk_far ?_ NB170_214.out _; refine bk ?_; exact BK170.out) hb); replace BK171 := Aside0.mk (blk_below (g := gb171) (o := .cells #[.int .i64 a1_0, .int .i64 a1_1] 24 (0, 0)) (by refine bk ?_; refine blk_far ?_ NB171_214.out _; refine bk ?_; refine blk_far ?_ NB171_214.out _; refine bk ?_; exact BK171.out) hb); replace BK172 := Aside0.mk (blk_below (g := gb172) (o := .cells #[.int .i64 a2_0, .int .i64 a2_1] 24 (0, 0)) (by refine bk ?_; refine blk_far ?_ NB172_214.out _; refine bk ?_; refine blk_far ?_ NB172_214.out _; refine bk ?_; exact BK172.out) hb); replace BK175 := Aside0.mk (blk_below (g := gb175) (o := .cells #[.int .i64 t173, .int .i64 t174] 24 (0, 0)) (by refine bk ?_; refine blk_far ?_ NB175_214.out _; refine bk ?_; refine blk_far ?_ NB175_214.out _; refine bk ?_; exact BK175.out) hb); replace BK178 := Aside0.mk (blk_below (g := gb178) (o := .cells #[.int .i64 t176, .int .i64 t177] 24 (0, 0)) (by refine bk ?_; refine blk_far ?_ NB178_214.out _; refine bk ?_; refine blk_far ?_ NB178_214.out _; refine bk ?_; exact BK178.out) hb); replace BK209 := Aside0.mk (blk_below (g := gb209) (o := .cells #[.int .i64 t207, .int .i64 t208] 24 (0, 0)) (by refine bk ?_; refine blk_far ?_ NB209_214.out _; refine bk ?_; refine blk_far ?_ NB209_214.out _; refine bk ?_; exact BK209.out) hb); replace BK214 := Aside0.mk (blk_below (g := gb214) (o := .cells #[.int .i64 t212, .int .i64 t213] 24 (0, 0)) (by refine bk ?_; refine blk_put (cs := #[.int .i64 t212, .int .i64 0]) ?_ 1 _ rfl; refine bk ?_; refine blk_put (cs := #[.int .i64 0, .int .i64 0]) ?_ 0 _ rfl; refine bk ?_; exact BK214.out) hb); replace HB := hs' HB (by repeat first | (with_reducible exact HB.out) | refine bl1 ?_ | (with_reducible refine bset ?_ ‹_›) | exact HB.out) hb; clear hb ho231; obtain ⟨Ao232, co232, eo232⟩ := Kd.R_slice HO217.out; subst eo232) | ((with_reducible refine gate_callee (f := 14) rfl ?_); refine goesL_ (some 69) rfl rfl Try.func14 (by kernel_rfl) rfl #[.slice Ao232 y215.length co232] rfl (by (try simp only [mp]); first | done | rfl | (simp only [ld]; rfl)) ?_; (with_reducible refine (serinettelaw01_numbers.calls kj40 _ _ y215 true _ ?side1 ?side2 A215.out).mono ?_); (case side1 => repeat (first | exact (Kd.R_reads' HO217.out).2.2 | (with_reducible refine Kd.C_alloc ?_ _) | (with_reducible refine Kd.C_drewN ?_ _) | (with_reducible refine Kd.C_drew ?_))); (case side2 => exact (Kd.R_reads' HO217.out).2.1); rintro e w233 ⟨rfl, hb⟩; refine ⟨_, rfl, ?_⟩; replace HO217 := Aside0.mk (Kd.R_below (by (with_reducible repeat (first | apply Kd.R_alloc | apply Kd.R_drewN | apply Kd.R_drew)); exact HO217.out) hb); replace BK170 := kb BK170 hb; replace BK171 := kb BK171 hb; replace BK172 := kb BK172 hb; replace BK175 := kb BK175 hb; replace BK178 := kb BK178 hb; replace BK209 := kb BK209 hb; replace BK214 := kb BK214 hb; replace HB := hs' HB (by repeat first | (with_reducible exact HB.out) | refine bl1 ?_ | (with_reducible refine bset ?_ ‹_›) | exact HB.out) hb; (try clear hb); (try clear hb2); (try clear hk); (try clear hi); have hcz234_0 : w233.cell? ⟨gb209, 0, none⟩ = some (.int .i64 t207) := (blk_cell BK209.out 0).trans rfl; have hcz234_1 : w233.cell? ⟨gb209, 1, none⟩ = some (.int .i64 t208) := (blk_cell BK209.out 1).trans rfl; have hfz234_0 := blk_frozen BK209.out 0; have hfz234_1 := blk_frozen BK209.out 1; have hcz235_0 : w233.cell? ⟨gb214, 0, none⟩ = some (.int .i64 t212) := (blk_cell BK214.out 0).trans rfl; have hcz235_1 : w233.cell? ⟨gb214, 1, none⟩ = some (.int .i64 t213) := (blk_cell BK214.out 1).trans rfl; have hfz235_0 := blk_frozen BK214.out 0; have hfz235_1 := blk_frozen BK214.out 1))
         go_meet
         case rel => exact ⟨_, ((!(t207 == t212) || (!(t208 == t213)))), (by first | rfl | (simp; done) | (simp [*]; done)), H', ⟨by have := HJ5.out; have := HJ40.out; first | omega | exact Nat.le_refl _⟩, ⟨by refine bk ?_; exact BK170.out⟩, ⟨by refine bk ?_; exact BK171.out⟩, ⟨by refine bk ?_; exact BK172.out⟩, ⟨by refine bk ?_; exact BK175.out⟩, ⟨by refine bk ?_; exact BK178.out⟩, ⟨by refine bk ?_; exact BK209.out⟩, ⟨by refine bk ?_; exact BK214.out⟩, ⟨by repeat first | exact HB.out | refine bset ?_ ‹_› | apply below_alloc | apply pw_below_drewN | apply below_drew1⟩⟩
        ·
         replace c216 := Bool.eq_false_iff.mpr c216
         subst c216
         rw [if_neg (show ¬ (false = true) by decide)] at H
         have H' := Aside0.mk H
         clear H
         have hnb236 := NB209_170.out
         have hnc236 := NB170_209.out
         have hnb237 := NB209_171.out
         have hnc237 := NB171_209.out
         have hnb238 := NB209_172.out
         have hnc238 := NB172_209.out
         have hnb239 := NB209_175.out
         have hnc239 := NB175_209.out
         have hnb240 := NB209_178.out
         have hnc240 := NB178_209.out
         have hnb241 := NB209_214.out
         have hnc241 := NB214_209.out
         have hcz242_0 : w212.cell? ⟨gb209, 0, none⟩ = some (.int .i64 t207) := (blk_cell BK209.out 0).trans rfl
         have hcz242_1 : w212.cell? ⟨gb209, 1, none⟩ = some (.int .i64 t208) := (blk_cell BK209.out 1).trans rfl
         have hfz242_0 := blk_frozen BK209.out 0
         have hfz242_1 := blk_frozen BK209.out 1
         have hnb243 := NB214_170.out
         have hnc243 := NB170_214.out
         have hnb244 := NB214_171.out
         have hnc244 := NB171_214.out
         have hnb245 := NB214_172.out
         have hnc245 := NB172_214.out
         have hnb246 := NB214_175.out
         have hnc246 := NB175_214.out
         have hnb247 := NB214_178.out
         have hnc247 := NB178_214.out
         have hcz248_0 : w212.cell? ⟨gb214, 0, none⟩ = some (.int .i64 0) := (blk_cell BK214.out 0).trans rfl
         have hcz248_1 : w212.cell? ⟨gb214, 1, none⟩ = some (.int .i64 0) := (blk_cell BK214.out 1).trans rfl
         have hfz248_0 := blk_frozen BK214.out 0
         have hfz248_1 := blk_frozen BK214.out 1
         go_wp2_with (first | ((with_reducible refine gate_dst (N := 68) rfl ?_); (try (refine gate_guard (by rfl) ?_; dsimp only)); refine Kd.R_lit k24 _ 24 ?hg (N := 68) ?hd (xs := ([(⟨t207, t208⟩ : S24), (⟨t212, t213⟩ : S24)] : List (S24))) (inner := [.int .i64 t207, .int .i64 t208, .int .i64 t212, .int .i64 t213]) (ok := fun _ => True) (okp := fun _ => True) ?hr ?hp (fun _ hk => hk) trivial (Below.refl _ _) (Nat.le_refl _) (by simp) ?_; (case hd => rfl); (case hg => rfl); (case hr => first | (go_simp; done) | (go_simp; rfl)); (case hp => exact (Reps.c2 (show Kd.M k24 _ _ _ (⟨t207, t208⟩ : S24) [.int .i64 t207, .int .i64 t208] from (k24_mkM _ _ _ (⟨t207, t208⟩ : S24) )) (Reps.c2 (show Kd.M k24 _ _ _ (⟨t212, t213⟩ : S24) [.int .i64 t212, .int .i64 t213] from (k24_mkM _ _ _ (⟨t212, t213⟩ : S24) )) (Reps.none _ _)))); intro v216 w249 ho250 hb hg_ hnew_; clear hg_ hnew_; (first | rw [← Ny215.out] at ho250 | (simp only [Int.reduceToNat] at ho250; rw [← Ny215.out] at ho250)); have HO217 := Aside0.mk (Kd.R_lower (Kd.R_newB (Kd.R_newB (Kd.R_newB (Kd.R_newB (Kd.R_newB (Kd.R_newB (Kd.R_newB ho250 (g := gb170) (o := .cells #[.int .i64 a0_0, .int .i64 a0_1] 24 (0, 0)) (by refine bk ?_; refine blk_far ?_ NB170_214.out _; refine bk ?_; refine blk_far ?_ NB170_214.out _; refine bk ?_; exact BK170.out)) (g := gb171) (o := .cells #[.int .i64 a1_0, .int .i64 a1_1] 24 (0, 0)) (by refine bk ?_; refine blk_far ?_ NB171_214.out _; refine bk ?_; refine blk_far ?_ NB171_214.out _; refine bk ?_; exact BK171.out)) (g := gb172) (o := .cells #[.int .i64 a2_0, .int .i64 a2_1] 24 (0, 0)) (by refine bk ?_; refine blk_far ?_ NB172_214.out _; refine bk ?_; refine blk_far ?_ NB172_214.out _; refine bk ?_; exact BK172.out)) (g := gb175) (o := .cells #[.int .i64 t173, .int .i64 t174] 24 (0, 0)) (by refine bk ?_; refine blk_far ?_ NB175_214.out _; refine bk ?_; refine blk_far ?_ NB175_214.out _; refine bk ?_; exact BK175.out)) (g := gb178) (o := .cells #[.int .i64 t176, .int .i64 t177] 24 (0, 0)) (by refine bk ?_; refine blk_far ?_ NB178_214.out _; refine bk ?_; refine blk_far ?_ NB178_214.out _; refine bk ?_; exact BK178.out)) (g := gb209) (o := .cells #[.int .i64 t207, .int .i64 t208] 24 (0, 0)) (by refine bk ?_; refine blk_far ?_ NB209_214.out _; refine bk ?_; refine blk_far ?_ NB209_214.out _; refine bk ?_; exact BK209.out)) (g := gb214) (o := .cells #[.int .i64 t212, .int .i64 t213] 24 (0, 0)) (by refine bk ?_; refine blk_put (cs := #[.int .i64 t212, .int .i64 0]) ?_ 1 _ rfl; refine bk ?_; refine blk_put (cs := #[.int .i64 0, .int .i64 0]) ?_ 0 _ rfl; refine bk ?_; exact BK214.out)) (below_size (by repeat first | (with_reducible exact HB.out) | refine bl1 ?_ | (with_reducible refine bset ?_ ‹_›) | exact HB.out))); replace BK170 := Aside0.mk (blk_below (g := gb170) (o := .cells #[.int .i64 a0_0, .int .i64 a0_1] 24 (0, 0)) (by refine bk ?_; refine blk_far ?_ NB170_214.out _; refine bk ?_; refine blk_far ?_ NB170_214.out _; refine bk ?_; exact BK170.out) hb); replace BK171 := Aside0.mk (blk_below (g := gb171) (o := .cells #[.int .i64 a1_0, .int .i64 a1_1] 24 (0, 0)) (by refine bk ?_; refine blk_far ?_ NB171_214.out _; refine bk ?_; refine blk_far ?_ NB171_214.out _; refine bk ?_; exact BK171.out) hb); replace BK172 := Aside0.mk (blk_below (g := gb172) (o := .cells #[.int .i64 a2_0, .int .i64 a2_1] 24 (0, 0)) (by refine bk ?_; refine blk_far ?_ NB172_214.out _; refine bk ?_; refine blk_far ?_ NB172_214.out _; refine bk ?_; exact BK172.out) hb); replace BK175 := Aside0.mk (blk_below (g := gb175) (o := .cells #[.int .i64 t173, .int .i64 t174] 24 (0, 0)) (by refine bk ?_; refine blk_far ?_ NB175_214.out _; refine bk ?_; refine blk_far ?_ NB175_214.out _; refine bk ?_; exact BK175.out) hb); replace BK178 := Aside0.mk (blk_below (g := gb178) (o := .cells #[.int .i64 t176, .int .i64 t177] 24 (0, 0)) (by refine bk ?_; refine blk_far ?_ NB178_214.out _; refine bk ?_; refine blk_far ?_ NB178_214.out _; refine bk ?_; exact BK178.out) hb); replace BK209 := Aside0.mk (blk_below (g := gb209) (o := .cells #[.int .i64 t207, .int .i64 t208] 24 (0, 0)) (by refine bk ?_; refine blk_far ?_ NB209_214.out _; refine bk ?_; refine blk_far ?_ NB209_214.out _; refine bk ?_; exact BK209.out) hb); replace BK214 := Aside0.mk (blk_below (g := gb214) (o := .cells #[.int .i64 t212, .int .i64 t213] 24 (0, 0)) (by refine bk ?_; refine blk_put (cs := #[.int .i64 t212, .int .i64 0]) ?_ 1 _ rfl; refine bk ?_; refine blk_put (cs := #[.int .i64 0, .int .i64 0]) ?_ 0 _ rfl; refine bk ?_; exact BK214.out) hb); replace HB := hs' HB (by repeat first | (with_reducible exact HB.out) | refine bl1 ?_ | (with_reducible refine bset ?_ ‹_›) | exact HB.out) hb; clear hb ho250; obtain ⟨Ao251, co251, eo251⟩ := Kd.R_slice HO217.out; subst eo251) | ((with_reducible refine gate_callee (f := 14) rfl ?_); refine goesL_ (some 69) rfl rfl Try.func14 (by kernel_rfl) rfl #[.slice Ao251 y215.length co251] rfl (by (try simp only [mp]); first | done | rfl | (simp only [ld]; rfl)) ?_; (with_reducible refine (serinettelaw01_numbers.calls kj40 _ _ y215 false _ ?side1 ?side2 A215.out).mono ?_); (case side1 => repeat (first | exact (Kd.R_reads' HO217.out).2.2 | (with_reducible refine Kd.C_alloc ?_ _) | (with_reducible refine Kd.C_drewN ?_ _) | (with_reducible refine Kd.C_drew ?_))); (case side2 => exact (Kd.R_reads' HO217.out).2.1); rintro e w252 ⟨rfl, hb⟩; refine ⟨_, rfl, ?_⟩; replace HO217 := Aside0.mk (Kd.R_below (by (with_reducible repeat (first | apply Kd.R_alloc | apply Kd.R_drewN | apply Kd.R_drew)); exact HO217.out) hb); replace BK170 := kb BK170 hb; replace BK171 := kb BK171 hb; replace BK172 := kb BK172 hb; replace BK175 := kb BK175 hb; replace BK178 := kb BK178 hb; replace BK209 := kb BK209 hb; replace BK214 := kb BK214 hb; replace HB := hs' HB (by repeat first | (with_reducible exact HB.out) | refine bl1 ?_ | (with_reducible refine bset ?_ ‹_›) | exact HB.out) hb; (try clear hb); (try clear hb2); (try clear hk); (try clear hi)))
         go_meet
         case rel => exact ⟨_, (false), (by first | rfl | (simp; done) | (simp [*]; done)), H', ⟨by have := HJ5.out; have := HJ40.out; first | omega | exact Nat.le_refl _⟩, ⟨by refine bk ?_; exact BK170.out⟩, ⟨by refine bk ?_; exact BK171.out⟩, ⟨by refine bk ?_; exact BK172.out⟩, ⟨by refine bk ?_; exact BK175.out⟩, ⟨by refine bk ?_; exact BK178.out⟩, ⟨by refine bk ?_; exact BK209.out⟩, ⟨by refine bk ?_; exact BK214.out⟩, ⟨by repeat first | exact HB.out | refine bset ?_ ‹_› | apply below_alloc | apply pw_below_drewN | apply below_drew1⟩⟩
       case rest =>
        clear HC189
        (try clear c1); (try clear c2); (try clear p2); (try clear c12); (try clear c14); (try clear c21); (try clear c22); (try clear c23); (try clear c24); (try clear c216); (try clear c217); (try clear c218); (try clear c219); (try clear c220); (try clear c221); (try clear c222); (try clear c224); (try clear c225); (try clear c226); (try clear c227); (try clear c228); (try clear c236); (try clear c237); (try clear c238); (try clear c239); (try clear c240); (try clear c241); (try clear c243); (try clear c244); (try clear c245); (try clear c246); (try clear c247); (try clear hcz223_0); (try clear hcz223_1); (try clear hcz229_0); (try clear hcz229_1); (try clear hcz234_0); (try clear hcz234_1); (try clear hcz235_0); (try clear hcz235_1); (try clear hcz242_0); (try clear hcz242_1); (try clear hcz248_0); (try clear hcz248_1); (try clear hfz223_0); (try clear hfz223_1); (try clear hfz229_0); (try clear hfz229_1); (try clear hfz234_0); (try clear hfz234_1); (try clear hfz235_0); (try clear hfz235_1); (try clear hfz242_0); (try clear hfz242_1); (try clear hfz248_0); (try clear hfz248_1)
        obtain ⟨kq, x74_188, rfl, HA, HJ188, BK170, BK171, BK172, BK175, BK178, BK209, BK214, HB⟩ := hcut
        cases kq with
        | zero => exact absurd HA.out (by simp [serinettelaw01_NumberField.j2])
        | succ kj188 =>
         have H := HA.out
         clear HA
         simp only [serinettelaw01_NumberField.j2] at H
         by_cases c253 : x74_188 = true
         ·
          subst c253
          rw [if_pos rfl] at H
          exact absurd (H.trans (congrArg some hr.out)) (by simp)
         ·
          replace c253 := Bool.eq_false_iff.mpr c253
          subst c253
          rw [if_neg (show ¬ (false = true) by decide)] at H
          replace H := Option.bind_eq_some_iff.mp H
          obtain ⟨⟨t219, t220⟩, A2540, H⟩ := H
          (try dsimp only at H)
          have A254 := Aside0.mk A2540
          clear A2540
          replace H := Option.bind_eq_some_iff.mp H
          obtain ⟨⟨t221, t222⟩, A2550, H⟩ := H
          (try dsimp only at H)
          have A255 := Aside0.mk A2550
          clear A2550
          replace H := Option.bind_eq_some_iff.mp H
          obtain ⟨⟨t223, t224⟩, A2560, H⟩ := H
          (try dsimp only at H)
          have A256 := Aside0.mk A2560
          clear A2560
          replace H := Option.bind_eq_some_iff.mp H
          obtain ⟨⟨t225, t226⟩, A2570, H⟩ := H
          (try dsimp only at H)
          have A257 := Aside0.mk A2570
          clear A2570
          replace H := Option.bind_eq_some_iff.mp H
          obtain ⟨⟨t227, t228⟩, A2580, H⟩ := H
          (try dsimp only at H)
          have A258 := Aside0.mk A2580
          clear A2580
          have HC259 := Aside0.mk H
          clear H
          try go_wp2
          replace BK170 := kd BK170
          replace BK171 := kd BK171
          replace BK172 := kd BK172
          replace BK175 := kd BK175
          replace BK178 := kd BK178
          replace BK209 := kd BK209
          replace BK214 := kd BK214
          replace HB := Aside0.mk (below_drew1 HB.out)
          refine start_ (n := 6) (S := fun w' => w'.cell? ⟨gb170, 0, none⟩ = some (.int .i64 a0_0) ∧ w'.cell? ⟨gb170, 1, none⟩ = some (.int .i64 a0_1) ∧ w'.cell? ⟨gb171, 0, none⟩ = some (.int .i64 a1_0) ∧ w'.cell? ⟨gb171, 1, none⟩ = some (.int .i64 a1_1) ∧ w'.cell? ⟨gb172, 0, none⟩ = some (.int .i64 a2_0) ∧ w'.cell? ⟨gb172, 1, none⟩ = some (.int .i64 a2_1)) (ds := []) (bA 6 0) (by kernel_rfl) rfl rfl ⟨(blk_cell BK170.out 0).trans rfl, (blk_cell BK170.out 1).trans rfl, (blk_cell BK171.out 0).trans rfl, (blk_cell BK171.out 1).trans rfl, (blk_cell BK172.out 0).trans rfl, (blk_cell BK172.out 1).trans rfl⟩ (fun hHeld => ?_)
          generalize wc.drew = w260 at BK170 BK171 BK172 BK175 BK178 BK209 BK214 HB hHeld ⊢
          refine take_ (i := 0) (N := some 75) (v := ?_) (a' := ?_) (bA 6 1) rfl rfl (by kernel_rfl) (fun _ _ _ h => h) (Or.inl ⟨by rfl, ?_⟩) hHeld ?_ ?_
          rotate_left
          ·
           rintro w' ⟨s0, s1, s2, s3, s4, s5⟩
           go_simp; with_reducible rfl
          rotate_left
          ·
           simp only [ap]
           rfl
          refine take_ (i := 1) (N := some 76) (v := ?_) (a' := ?_) (bA 6 3) rfl rfl (by kernel_rfl) (fun _ _ _ h => h) (Or.inl ⟨by rfl, ?_⟩) hHeld ?_ ?_
          rotate_left
          ·
           rintro w' ⟨s0, s1, s2, s3, s4, s5⟩
           go_simp; with_reducible rfl
          rotate_left
          ·
           simp only [ap]
           rfl
          refine take_ (i := 3) (N := some 78) (v := ?_) (a' := ?_) (bA 6 11) rfl rfl (by kernel_rfl) (fun _ _ _ h => h) (Or.inl ⟨by rfl, ?_⟩) hHeld ?_ ?_
          rotate_left
          ·
           rintro w' ⟨s0, s1, s2, s3, s4, s5⟩
           go_simp; with_reducible rfl
          rotate_left
          ·
           simp only [ap]
           rfl
          refine one_ (i := 2) (N := some 77) (bA 6 15) rfl rfl (by kernel_rfl) (by decide) (fun K hK => ?_)
          refine goes_ Try.func12 (by kernel_rfl) rfl #[.agg #[.int .i64 a0_0, .int .i64 a0_1], .agg #[.int .i64 a1_0, .int .i64 a1_1]] (by rfl) rfl rfl (by (try simp only [mp]); first | done | rfl | (simp only [ld]; rfl)) ?_
          with_reducible refine (ratio_Add.calls kj188 a0_0 a0_1 a1_0 a1_1 t219 t220 _ A254.out).mono ?_
          rintro e w261 ⟨rfl, hb⟩
          refine ⟨_, rfl, ?_⟩
          replace BK170 := kb BK170 hb
          replace BK171 := kb BK171 hb
          replace BK172 := kb BK172 hb
          replace BK175 := kb BK175 hb
          replace BK178 := kb BK178 hb
          replace BK209 := kb BK209 hb
          replace BK214 := kb BK214 hb
          replace HB := hs' HB (by repeat first | (with_reducible exact HB.out) | refine bl1 ?_ | (with_reducible refine bset ?_ ‹_›) | exact HB.out) hb
          (try clear hb); (try clear hb2); (try clear hk); (try clear hi)
          refine hK.out _ _ ⟨(blk_cell BK170.out 0).trans rfl, (blk_cell BK170.out 1).trans rfl, (blk_cell BK171.out 0).trans rfl, (blk_cell BK171.out 1).trans rfl, (blk_cell BK172.out 0).trans rfl, (blk_cell BK172.out 1).trans rfl⟩ (fun hHeld => ?_)
          clear hK K
          refine norm_ (a' := ?_) ?_ ?_
          rotate_left
          ·
           show Act.put _ (some 77) _ = _
           simp only [ap]; rfl
          refine one_ (i := 4) (N := some 79) (bA 6 31) rfl rfl (by kernel_rfl) (by decide) (fun K hK => ?_)
          refine goes_ Try.func13 (by kernel_rfl) rfl #[.agg #[.int .i64 t219, .int .i64 t220], .agg #[.int .i64 a2_0, .int .i64 a2_1]] (by rfl) rfl rfl (by (try simp only [mp]); first | done | rfl | (simp only [ld]; rfl)) ?_
          with_reducible refine (ratio_Mul.calls kj188 t219 t220 a2_0 a2_1 t221 t222 _ A255.out).mono ?_
          rintro e w262 ⟨rfl, hb⟩
          refine ⟨_, rfl, ?_⟩
          replace BK170 := kb BK170 hb
          replace BK171 := kb BK171 hb
          replace BK172 := kb BK172 hb
          replace BK175 := kb BK175 hb
          replace BK178 := kb BK178 hb
          replace BK209 := kb BK209 hb
          replace BK214 := kb BK214 hb
          replace HB := hs' HB (by repeat first | (with_reducible exact HB.out) | refine bl1 ?_ | (with_reducible refine bset ?_ ‹_›) | exact HB.out) hb
          (try clear hb); (try clear hb2); (try clear hk); (try clear hi)
          refine hK.out _ _ ⟨(blk_cell BK170.out 0).trans rfl, (blk_cell BK170.out 1).trans rfl, (blk_cell BK171.out 0).trans rfl, (blk_cell BK171.out 1).trans rfl, (blk_cell BK172.out 0).trans rfl, (blk_cell BK172.out 1).trans rfl⟩ (fun hHeld => ?_)
          clear hK K
          refine norm_ (a' := ?_) ?_ ?_
          rotate_left
          ·
           show Act.put _ (some 79) _ = _
           simp only [ap]; rfl
          refine one_ (i := 5) (N := none) (bA 6 63) rfl rfl (by kernel_rfl) (by decide) (fun K hK => ?_)
          have hs263 : w262.cell? ⟨gb209, 0, none⟩ = some (.int .i64 t207) := (blk_cell BK209.out 0).trans rfl
          have hfs263 := blk_frozen BK209.out 0
          have hns263_0 := NB170_209.out
          have hns263_1 := NB171_209.out
          have hns263_2 := NB172_209.out
          have hns263_3 := NB175_209.out
          have hns263_4 := NB178_209.out
          have hns263_6 := NB214_209.out
          have hms263_0 := NB209_170.out
          have hms263_1 := NB209_171.out
          have hms263_2 := NB209_172.out
          have hms263_3 := NB209_175.out
          have hms263_4 := NB209_178.out
          have hms263_6 := NB209_214.out
          have hs264 : w262.cell? ⟨gb209, 1, none⟩ = some (.int .i64 t208) := (blk_cell BK209.out 1).trans rfl
          have hfs264 := blk_frozen BK209.out 1
          have hns264_0 := NB170_209.out
          have hns264_1 := NB171_209.out
          have hns264_2 := NB172_209.out
          have hns264_3 := NB175_209.out
          have hns264_4 := NB178_209.out
          have hns264_6 := NB214_209.out
          have hms264_0 := NB209_170.out
          have hms264_1 := NB209_171.out
          have hms264_2 := NB209_172.out
          have hms264_3 := NB209_175.out
          have hms264_4 := NB209_178.out
          have hms264_6 := NB209_214.out
          refine skip_ (w1 := ?_) (by rfl) rfl ?_ ?_
          rotate_left
          ·
           go_simp
           rfl
          refine hK.out _ _ ⟨((cell_far (p := ⟨gb209, _, none⟩) NB170_209.out _).trans (((cell_far (p := ⟨gb209, _, none⟩) NB170_209.out _).trans (hHeld.1)))), ((cell_far (p := ⟨gb209, _, none⟩) NB170_209.out _).trans (((cell_far (p := ⟨gb209, _, none⟩) NB170_209.out _).trans (hHeld.2.1)))), ((cell_far (p := ⟨gb209, _, none⟩) NB171_209.out _).trans (((cell_far (p := ⟨gb209, _, none⟩) NB171_209.out _).trans (hHeld.2.2.1)))), ((cell_far (p := ⟨gb209, _, none⟩) NB171_209.out _).trans (((cell_far (p := ⟨gb209, _, none⟩) NB171_209.out _).trans (hHeld.2.2.2.1)))), ((cell_far (p := ⟨gb209, _, none⟩) NB172_209.out _).trans (((cell_far (p := ⟨gb209, _, none⟩) NB172_209.out _).trans (hHeld.2.2.2.2.1)))), ((cell_far (p := ⟨gb209, _, none⟩) NB172_209.out _).trans (((cell_far (p := ⟨gb209, _, none⟩) NB172_209.out _).trans (hHeld.2.2.2.2.2))))⟩ (fun hHeld => ?_)
          clear hK K
          refine done_ (by kernel_rfl) ?_
          try go_wp2
          have n0_ : Aside0 (((w262.setCell ⟨gb209, 0, none⟩ (.int .i64 t221)).setCell ⟨gb209, 1, none⟩ (.int .i64 t222)).heap[gb170]? = some (.cells #[.int .i64 a0_0, .int .i64 a0_1] 24 (0, 0))) := ⟨by refine bk ?_; refine blk_far ?_ NB170_209.out _; refine bk ?_; refine blk_far ?_ NB170_209.out _; refine bk ?_; exact BK170.out⟩
          have n1_ : Aside0 (((w262.setCell ⟨gb209, 0, none⟩ (.int .i64 t221)).setCell ⟨gb209, 1, none⟩ (.int .i64 t222)).heap[gb171]? = some (.cells #[.int .i64 a1_0, .int .i64 a1_1] 24 (0, 0))) := ⟨by refine bk ?_; refine blk_far ?_ NB171_209.out _; refine bk ?_; refine blk_far ?_ NB171_209.out _; refine bk ?_; exact BK171.out⟩
          have n2_ : Aside0 (((w262.setCell ⟨gb209, 0, none⟩ (.int .i64 t221)).setCell ⟨gb209, 1, none⟩ (.int .i64 t222)).heap[gb172]? = some (.cells #[.int .i64 a2_0, .int .i64 a2_1] 24 (0, 0))) := ⟨by refine bk ?_; refine blk_far ?_ NB172_209.out _; refine bk ?_; refine blk_far ?_ NB172_209.out _; refine bk ?_; exact BK172.out⟩
          have n3_ : Aside0 (((w262.setCell ⟨gb209, 0, none⟩ (.int .i64 t221)).setCell ⟨gb209, 1, none⟩ (.int .i64 t222)).heap[gb175]? = some (.cells #[.int .i64 t173, .int .i64 t174] 24 (0, 0))) := ⟨by refine bk ?_; refine blk_far ?_ NB175_209.out _; refine bk ?_; refine blk_far ?_ NB175_209.out _; refine bk ?_; exact BK175.out⟩
          have n4_ : Aside0 (((w262.setCell ⟨gb209, 0, none⟩ (.int .i64 t221)).setCell ⟨gb209, 1, none⟩ (.int .i64 t222)).heap[gb178]? = some (.cells #[.int .i64 t176, .int .i64 t177] 24 (0, 0))) := ⟨by refine bk ?_; refine blk_far ?_ NB178_209.out _; refine bk ?_; refine blk_far ?_ NB178_209.out _; refine bk ?_; exact BK178.out⟩
          have n5_ : Aside0 (((w262.setCell ⟨gb209, 0, none⟩ (.int .i64 t221)).setCell ⟨gb209, 1, none⟩ (.int .i64 t222)).heap[gb209]? = some (.cells #[.int .i64 t221, .int .i64 t222] 24 (0, 0))) := ⟨by refine bk ?_; refine blk_put (cs := #[.int .i64 t221, .int .i64 t208]) ?_ 1 _ rfl; refine bk ?_; refine blk_put (cs := #[.int .i64 t207, .int .i64 t208]) ?_ 0 _ rfl; refine bk ?_; exact BK209.out⟩
          have n6_ : Aside0 (((w262.setCell ⟨gb209, 0, none⟩ (.int .i64 t221)).setCell ⟨gb209, 1, none⟩ (.int .i64 t222)).heap[gb214]? = some (.cells #[.int .i64 t212, .int .i64 t213] 24 (0, 0))) := ⟨by refine bk ?_; refine blk_far ?_ NB214_209.out _; refine bk ?_; refine blk_far ?_ NB214_209.out _; refine bk ?_; exact BK214.out⟩
          have n7_ : Aside0 (Below w.heap.size w ((w262.setCell ⟨gb209, 0, none⟩ (.int .i64 t221)).setCell ⟨gb209, 1, none⟩ (.int .i64 t222))) := ⟨by repeat first | exact HB.out | refine bset ?_ ‹_› | apply below_alloc | apply pw_below_drewN | apply below_drew1⟩
          (try clear BK170); (try clear BK171); (try clear BK172); (try clear BK175); (try clear BK178); (try clear BK209); (try clear BK214); (try clear HB)
          generalize ((w262.setCell ⟨gb209, 0, none⟩ (.int .i64 t221)).setCell ⟨gb209, 1, none⟩ (.int .i64 t222)) = w265 at n0_ n1_ n2_ n3_ n4_ n5_ n6_ n7_ ⊢
          have BK170 := n0_
          have BK171 := n1_
          have BK172 := n2_
          have BK175 := n3_
          have BK178 := n4_
          have BK209 := n5_
          have BK214 := n6_
          have HB := n7_
          clear n0_ n1_ n2_ n3_ n4_ n5_ n6_ n7_
          replace BK170 := kd BK170
          replace BK171 := kd BK171
          replace BK172 := kd BK172
          replace BK175 := kd BK175
          replace BK178 := kd BK178
          replace BK209 := kd BK209
          replace BK214 := kd BK214
          replace HB := Aside0.mk (below_drew1 HB.out)
          refine start_ (n := 8) (S := fun w' => w'.cell? ⟨gb170, 0, none⟩ = some (.int .i64 a0_0) ∧ w'.cell? ⟨gb170, 1, none⟩ = some (.int .i64 a0_1) ∧ w'.cell? ⟨gb172, 0, none⟩ = some (.int .i64 a2_0) ∧ w'.cell? ⟨gb172, 1, none⟩ = some (.int .i64 a2_1) ∧ w'.cell? ⟨gb171, 0, none⟩ = some (.int .i64 a1_0) ∧ w'.cell? ⟨gb171, 1, none⟩ = some (.int .i64 a1_1)) (ds := []) (bA 8 0) (by kernel_rfl) rfl rfl ⟨(blk_cell BK170.out 0).trans rfl, (blk_cell BK170.out 1).trans rfl, (blk_cell BK172.out 0).trans rfl, (blk_cell BK172.out 1).trans rfl, (blk_cell BK171.out 0).trans rfl, (blk_cell BK171.out 1).trans rfl⟩ (fun hHeld => ?_); refine with_tabW serinettelaw01_NumberField.tab12 serinettelaw01_NumberField.bits12 (fun HT_ HW_ => ?_)
          generalize w265.drew = w266 at BK170 BK171 BK172 BK175 BK178 BK209 BK214 HB hHeld ⊢
          refine take_ (i := 0) (N := some 80) (v := ?_) (a' := ?_) (bA 8 1) rfl rfl (take_ofW HT_.out HW_.out (by kernel_rfl)) (fun _ _ _ h => h) (Or.inl ⟨by rfl, ?_⟩) hHeld ?_ ?_
          rotate_left
          ·
           rintro w' ⟨s0, s1, s2, s3, s4, s5⟩
           go_simp; with_reducible rfl
          rotate_left
          ·
           simp only [ap]
           rfl
          refine take_ (i := 1) (N := some 81) (v := ?_) (a' := ?_) (bA 8 3) rfl rfl (take_ofW HT_.out HW_.out (by kernel_rfl)) (fun _ _ _ h => h) (Or.inl ⟨by rfl, ?_⟩) hHeld ?_ ?_
          rotate_left
          ·
           rintro w' ⟨s0, s1, s2, s3, s4, s5⟩
           go_simp; with_reducible rfl
          rotate_left
          ·
           simp only [ap]
           rfl
          refine take_ (i := 3) (N := some 83) (v := ?_) (a' := ?_) (bA 8 11) rfl rfl (take_ofW HT_.out HW_.out (by kernel_rfl)) (fun _ _ _ h => h) (Or.inl ⟨by rfl, ?_⟩) hHeld ?_ ?_
          rotate_left
          ·
           rintro w' ⟨s0, s1, s2, s3, s4, s5⟩
           go_simp; with_reducible rfl
          rotate_left
          ·
           simp only [ap]
           rfl
          refine take_ (i := 4) (N := some 84) (v := ?_) (a' := ?_) (bA 8 27) rfl rfl (take_ofW HT_.out HW_.out (by kernel_rfl)) (fun _ _ _ h => h) (Or.inl ⟨by rfl, ?_⟩) hHeld ?_ ?_
          rotate_left
          ·
           rintro w' ⟨s0, s1, s2, s3, s4, s5⟩
           go_simp; with_reducible rfl
          rotate_left
          ·
           simp only [ap]
           rfl
          refine one_ (i := 2) (N := some 82) (bA 8 31) rfl rfl (one_of HT_.out (by kernel_rfl)) (by decide) (fun K hK => ?_)
          refine goes_ Try.func13 (by kernel_rfl) rfl #[.agg #[.int .i64 a0_0, .int .i64 a0_1], .agg #[.int .i64 a2_0, .int .i64 a2_1]] (by rfl) rfl rfl (by (try simp only [mp]); first | done | rfl | (simp only [ld]; rfl)) ?_
          with_reducible refine (ratio_Mul.calls kj188 a0_0 a0_1 a2_0 a2_1 t223 t224 _ A256.out).mono ?_
          rintro e w267 ⟨rfl, hb⟩
          refine ⟨_, rfl, ?_⟩
          replace BK170 := kb BK170 hb
          replace BK171 := kb BK171 hb
          replace BK172 := kb BK172 hb
          replace BK175 := kb BK175 hb
          replace BK178 := kb BK178 hb
          replace BK209 := kb BK209 hb
          replace BK214 := kb BK214 hb
          replace HB := hs' HB (by repeat first | (with_reducible exact HB.out) | refine bl1 ?_ | (with_reducible refine bset ?_ ‹_›) | exact HB.out) hb
          (try clear hb); (try clear hb2); (try clear hk); (try clear hi)
          refine hK.out _ _ ⟨(blk_cell BK170.out 0).trans rfl, (blk_cell BK170.out 1).trans rfl, (blk_cell BK172.out 0).trans rfl, (blk_cell BK172.out 1).trans rfl, (blk_cell BK171.out 0).trans rfl, (blk_cell BK171.out 1).trans rfl⟩ (fun hHeld => ?_)
          clear hK K
          refine norm_ (a' := ?_) ?_ ?_
          rotate_left
          ·
           show Act.put _ (some 82) _ = _
           simp only [ap]; rfl
          refine one_ (i := 5) (N := some 85) (bA 8 63) rfl rfl (one_of HT_.out (by kernel_rfl)) (by decide) (fun K hK => ?_)
          refine goes_ Try.func13 (by kernel_rfl) rfl #[.agg #[.int .i64 a1_0, .int .i64 a1_1], .agg #[.int .i64 a2_0, .int .i64 a2_1]] (by rfl) rfl rfl (by (try simp only [mp]); first | done | rfl | (simp only [ld]; rfl)) ?_
          with_reducible refine (ratio_Mul.calls kj188 a1_0 a1_1 a2_0 a2_1 t225 t226 _ A257.out).mono ?_
          rintro e w268 ⟨rfl, hb⟩
          refine ⟨_, rfl, ?_⟩
          replace BK170 := kb BK170 hb
          replace BK171 := kb BK171 hb
          replace BK172 := kb BK172 hb
          replace BK175 := kb BK175 hb
          replace BK178 := kb BK178 hb
          replace BK209 := kb BK209 hb
          replace BK214 := kb BK214 hb
          replace HB := hs' HB (by repeat first | (with_reducible exact HB.out) | refine bl1 ?_ | (with_reducible refine bset ?_ ‹_›) | exact HB.out) hb
          (try clear hb); (try clear hb2); (try clear hk); (try clear hi)
          refine hK.out _ _ ⟨(blk_cell BK170.out 0).trans rfl, (blk_cell BK170.out 1).trans rfl, (blk_cell BK172.out 0).trans rfl, (blk_cell BK172.out 1).trans rfl, (blk_cell BK171.out 0).trans rfl, (blk_cell BK171.out 1).trans rfl⟩ (fun hHeld => ?_)
          clear hK K
          refine norm_ (a' := ?_) ?_ ?_
          rotate_left
          ·
           show Act.put _ (some 85) _ = _
           simp only [ap]; rfl
          refine one_ (i := 6) (N := some 86) (bA 8 127) rfl rfl (one_of HT_.out (by kernel_rfl)) (by decide) (fun K hK => ?_)
          refine goes_ Try.func12 (by kernel_rfl) rfl #[.agg #[.int .i64 t223, .int .i64 t224], .agg #[.int .i64 t225, .int .i64 t226]] (by rfl) rfl rfl (by (try simp only [mp]); first | done | rfl | (simp only [ld]; rfl)) ?_
          with_reducible refine (ratio_Add.calls kj188 t223 t224 t225 t226 t227 t228 _ A258.out).mono ?_
          rintro e w269 ⟨rfl, hb⟩
          refine ⟨_, rfl, ?_⟩
          replace BK170 := kb BK170 hb
          replace BK171 := kb BK171 hb
          replace BK172 := kb BK172 hb
          replace BK175 := kb BK175 hb
          replace BK178 := kb BK178 hb
          replace BK209 := kb BK209 hb
          replace BK214 := kb BK214 hb
          replace HB := hs' HB (by repeat first | (with_reducible exact HB.out) | refine bl1 ?_ | (with_reducible refine bset ?_ ‹_›) | exact HB.out) hb
          (try clear hb); (try clear hb2); (try clear hk); (try clear hi)
          refine hK.out _ _ ⟨(blk_cell BK170.out 0).trans rfl, (blk_cell BK170.out 1).trans rfl, (blk_cell BK172.out 0).trans rfl, (blk_cell BK172.out 1).trans rfl, (blk_cell BK171.out 0).trans rfl, (blk_cell BK171.out 1).trans rfl⟩ (fun hHeld => ?_)
          clear hK K
          refine norm_ (a' := ?_) ?_ ?_
          rotate_left
          ·
           show Act.put _ (some 86) _ = _
           simp only [ap]; rfl
          refine one_ (i := 7) (N := none) (bA 8 255) rfl rfl (one_of HT_.out (by kernel_rfl)) (by decide) (fun K hK => ?_)
          have hs270 : w269.cell? ⟨gb214, 0, none⟩ = some (.int .i64 t212) := (blk_cell BK214.out 0).trans rfl
          have hfs270 := blk_frozen BK214.out 0
          have hns270_0 := NB170_214.out
          have hns270_1 := NB171_214.out
          have hns270_2 := NB172_214.out
          have hns270_3 := NB175_214.out
          have hns270_4 := NB178_214.out
          have hns270_5 := NB209_214.out
          have hms270_0 := NB214_170.out
          have hms270_1 := NB214_171.out
          have hms270_2 := NB214_172.out
          have hms270_3 := NB214_175.out
          have hms270_4 := NB214_178.out
          have hms270_5 := NB214_209.out
          have hs271 : w269.cell? ⟨gb214, 1, none⟩ = some (.int .i64 t213) := (blk_cell BK214.out 1).trans rfl
          have hfs271 := blk_frozen BK214.out 1
          have hns271_0 := NB170_214.out
          have hns271_1 := NB171_214.out
          have hns271_2 := NB172_214.out
          have hns271_3 := NB175_214.out
          have hns271_4 := NB178_214.out
          have hns271_5 := NB209_214.out
          have hms271_0 := NB214_170.out
          have hms271_1 := NB214_171.out
          have hms271_2 := NB214_172.out
          have hms271_3 := NB214_175.out
          have hms271_4 := NB214_178.out
          have hms271_5 := NB214_209.out
          refine skip_ (w1 := ?_) (by rfl) rfl ?_ ?_
          rotate_left
          ·
           go_simp
           rfl
          refine hK.out _ _ ⟨((cell_far (p := ⟨gb214, _, none⟩) NB170_214.out _).trans (((cell_far (p := ⟨gb214, _, none⟩) NB170_214.out _).trans (hHeld.1)))), ((cell_far (p := ⟨gb214, _, none⟩) NB170_214.out _).trans (((cell_far (p := ⟨gb214, _, none⟩) NB170_214.out _).trans (hHeld.2.1)))), ((cell_far (p := ⟨gb214, _, none⟩) NB172_214.out _).trans (((cell_far (p := ⟨gb214, _, none⟩) NB172_214.out _).trans (hHeld.2.2.1)))), ((cell_far (p := ⟨gb214, _, none⟩) NB172_214.out _).trans (((cell_far (p := ⟨gb214, _, none⟩) NB172_214.out _).trans (hHeld.2.2.2.1)))), ((cell_far (p := ⟨gb214, _, none⟩) NB171_214.out _).trans (((cell_far (p := ⟨gb214, _, none⟩) NB171_214.out _).trans (hHeld.2.2.2.2.1)))), ((cell_far (p := ⟨gb214, _, none⟩) NB171_214.out _).trans (((cell_far (p := ⟨gb214, _, none⟩) NB171_214.out _).trans (hHeld.2.2.2.2.2))))⟩ (fun hHeld => ?_)
          clear hK K
          refine done_ (done_of HT_.out (by kernel_rfl)) ?_
          go_upto_region 13 with (fail)
          go_cut [95] (fun v95 wc => ∃ (kq : Nat) (x95_258 : Bool), v95 = .bool x95_258 ∧ Aside0 (serinettelaw01_NumberField.j3 kq x95_258 a0_0 a0_1 a1_0 a1_1 a2_0 a2_1 = some r) ∧ Aside0 (kq ≤ kj188) ∧ Aside0 (wc.heap[gb170]? = some (.cells #[.int .i64 a0_0, .int .i64 a0_1] 24 (0, 0))) ∧ Aside0 (wc.heap[gb171]? = some (.cells #[.int .i64 a1_0, .int .i64 a1_1] 24 (0, 0))) ∧ Aside0 (wc.heap[gb172]? = some (.cells #[.int .i64 a2_0, .int .i64 a2_1] 24 (0, 0))) ∧ Aside0 (wc.heap[gb175]? = some (.cells #[.int .i64 t173, .int .i64 t174] 24 (0, 0))) ∧ Aside0 (wc.heap[gb178]? = some (.cells #[.int .i64 t176, .int .i64 t177] 24 (0, 0))) ∧ Aside0 (wc.heap[gb209]? = some (.cells #[.int .i64 t221, .int .i64 t222] 24 (0, 0))) ∧ Aside0 (wc.heap[gb214]? = some (.cells #[.int .i64 t227, .int .i64 t228] 24 (0, 0))) ∧ Aside0 (Below w.heap.size w wc))
          case first =>
           have H := HC259.out
           clear HC259
           obtain ⟨y229, hy229⟩ : ∃ y_ : List (S24), y_ = (([(⟨t221, t222⟩ : S24), (⟨t227, t228⟩ : S24)] : List (S24))) := ⟨_, rfl⟩
           replace H : ((serinettelaw01_numbers.f kj188 y229).bind fun t232 => (if t232 = true then (serinettelaw01_NumberField.j3 kj188 (!(t221 == t227) || (!(t222 == t228))) a0_0 a0_1 a1_0 a1_1 a2_0 a2_1) else (serinettelaw01_NumberField.j3 kj188 false a0_0 a0_1 a1_0 a1_1 a2_0 a2_1))) = some r := by first | (rw [hy229]; with_reducible exact H) | (have H2_ := (Option.bind_some _ _).symm.trans H; rw [hy229]; with_reducible exact H2_) | (have H2_ := (Option.bind_some _ _).symm.trans H; with_reducible exact H2_) | with_reducible exact H | (rw [hy229]; exact H) | exact H
           have Ny229 := Aside0.mk hy229
           clear hy229
           replace H := Option.bind_eq_some_iff.mp H
           obtain ⟨t232, A2720, H⟩ := H
           (try dsimp only at H)
           have A272 := Aside0.mk A2720
           clear A2720
           by_cases c273 : t232 = true
           ·
            subst c273
            rw [if_pos rfl] at H
            have H' := Aside0.mk H
            clear H
            have hnb274 := NB209_170.out
            have hnc274 := NB170_209.out
            have hnb275 := NB209_171.out
            have hnc275 := NB171_209.out
            have hnb276 := NB209_172.out
            have hnc276 := NB172_209.out
            have hnb277 := NB209_175.out
            have hnc277 := NB175_209.out
            have hnb278 := NB209_178.out
            have hnc278 := NB178_209.out
            have hnb279 := NB209_214.out
            have hnc279 := NB214_209.out
            have hcz280_0 : w269.cell? ⟨gb209, 0, none⟩ = some (.int .i64 t221) := (blk_cell BK209.out 0).trans rfl
            have hcz280_1 : w269.cell? ⟨gb209, 1, none⟩ = some (.int .i64 t222) := (blk_cell BK209.out 1).trans rfl
            have hfz280_0 := blk_frozen BK209.out 0
            have hfz280_1 := blk_frozen BK209.out 1
            have hnb281 := NB214_170.out
            have hnc281 := NB170_214.out
            have hnb282 := NB214_171.out
            have hnc282 := NB171_214.out
            have hnb283 := NB214_172.out
            have hnc283 := NB172_214.out
            have hnb284 := NB214_175.out
            have hnc284 := NB175_214.out
            have hnb285 := NB214_178.out
            have hnc285 := NB178_214.out
            have hcz286_0 : w269.cell? ⟨gb214, 0, none⟩ = some (.int .i64 t212) := (blk_cell BK214.out 0).trans rfl
            have hcz286_1 : w269.cell? ⟨gb214, 1, none⟩ = some (.int .i64 t213) := (blk_cell BK214.out 1).trans rfl
            have hfz286_0 := blk_frozen BK214.out 0
            have hfz286_1 := blk_frozen BK214.out 1
            go_wp2_with (first | ((with_reducible refine gate_dst (N := 89) rfl ?_); (try (refine gate_guard (by rfl) ?_; dsimp only)); refine Kd.R_lit k24 _ 24 ?hg (N := 89) ?hd (xs := ([(⟨t221, t222⟩ : S24), (⟨t227, t228⟩ : S24)] : List (S24))) (inner := [.int .i64 t221, .int .i64 t222, .int .i64 t227, .int .i64 t228]) (ok := fun _ => True) (okp := fun _ => True) ?hr ?hp (fun _ hk => hk) trivial (Below.refl _ _) (Nat.le_refl _) (by simp) ?_; (case hd => rfl); (case hg => rfl); (case hr => first | (go_simp; done) | (go_simp; rfl)); (case hp => exact (Reps.c2 (show Kd.M k24 _ _ _ (⟨t221, t222⟩ : S24) [.int .i64 t221, .int .i64 t222] from (k24_mkM _ _ _ (⟨t221, t222⟩ : S24) )) (Reps.c2 (show Kd.M k24 _ _ _ (⟨t227, t228⟩ : S24) [.int .i64 t227, .int .i64 t228] from (k24_mkM _ _ _ (⟨t227, t228⟩ : S24) )) (Reps.none _ _)))); intro v230 w287 ho288 hb hg_ hnew_; clear hg_ hnew_; (first | rw [← Ny229.out] at ho288 | (simp only [Int.reduceToNat] at ho288; rw [← Ny229.out] at ho288)); have HO231 := Aside0.mk (Kd.R_lower (Kd.R_newB (Kd.R_newB (Kd.R_newB (Kd.R_newB (Kd.R_newB (Kd.R_newB (Kd.R_newB ho288 (g := gb170) (o := .cells #[.int .i64 a0_0, .int .i64 a0_1] 24 (0, 0)) (by refine bk ?_; refine blk_far ?_ NB170_214.out _; refine bk ?_; refine blk_far ?_ NB170_214.out _; refine bk ?_; exact BK170.out)) (g := gb171) (o := .cells #[.int .i64 a1_0, .int .i64 a1_1] 24 (0, 0)) (by refine bk ?_; refine blk_far ?_ NB171_214.out _; refine bk ?_; refine blk_far ?_ NB171_214.out _; refine bk ?_; exact BK171.out)) (g := gb172) (o := .cells #[.int .i64 a2_0, .int .i64 a2_1] 24 (0, 0)) (by refine bk ?_; refine blk_far ?_ NB172_214.out _; refine bk ?_; refine blk_far ?_ NB172_214.out _; refine bk ?_; exact BK172.out)) (g := gb175) (o := .cells #[.int .i64 t173, .int .i64 t174] 24 (0, 0)) (by refine bk ?_; refine blk_far ?_ NB175_214.out _; refine bk ?_; refine blk_far ?_ NB175_214.out _; refine bk ?_; exact BK175.out)) (g := gb178) (o := .cells #[.int .i64 t176, .int .i64 t177] 24 (0, 0)) (by refine bk ?_; refine blk_far ?_ NB178_214.out _; refine bk ?_; refine blk_far ?_ NB178_214.out _; refine bk ?_; exact BK178.out)) (g := gb209) (o := .cells #[.int .i64 t221, .int .i64 t222] 24 (0, 0)) (by refine bk ?_; refine blk_far ?_ NB209_214.out _; refine bk ?_; refine blk_far ?_ NB209_214.out _; refine bk ?_; exact BK209.out)) (g := gb214) (o := .cells #[.int .i64 t227, .int .i64 t228] 24 (0, 0)) (by refine bk ?_; refine blk_put (cs := #[.int .i64 t227, .int .i64 t213]) ?_ 1 _ rfl; refine bk ?_; refine blk_put (cs := #[.int .i64 t212, .int .i64 t213]) ?_ 0 _ rfl; refine bk ?_; exact BK214.out)) (below_size (by repeat first | (with_reducible exact HB.out) | refine bl1 ?_ | (with_reducible refine bset ?_ ‹_›) | exact HB.out))); replace BK170 := Aside0.mk (blk_below (g := gb170) (o := .cells #[.int .i64 a0_0, .int .i64 a0_1] 24 (0, 0)) (by refine bk ?_; refine blk_far ?_ NB170_214.out _; refine bk ?_; refine blk_far ?_ NB170_214.out _; refine bk ?_; exact BK170.out) hb); replace BK171 := Aside0.mk (blk_below (g := gb171) (o := .cells #[.int .i64 a1_0, .int .i64 a1_1] 24 (0, 0)) (by refine bk ?_; refine blk_far ?_ NB171_214.out _; refine bk ?_; refine blk_far ?_ NB171_214.out _; refine bk ?_; exact BK171.out) hb); replace BK172 := Aside0.mk (blk_below (g := gb172) (o := .cells #[.int .i64 a2_0, .int .i64 a2_1] 24 (0, 0)) (by refine bk ?_; refine blk_far ?_ NB172_214.out _; refine bk ?_; refine blk_far ?_ NB172_214.out _; refine bk ?_; exact BK172.out) hb); replace BK175 := Aside0.mk (blk_below (g := gb175) (o := .cells #[.int .i64 t173, .int .i64 t174] 24 (0, 0)) (by refine bk ?_; refine blk_far ?_ NB175_214.out _; refine bk ?_; refine blk_far ?_ NB175_214.out _; refine bk ?_; exact BK175.out) hb); replace BK178 := Aside0.mk (blk_below (g := gb178) (o := .cells #[.int .i64 t176, .int .i64 t177] 24 (0, 0)) (by refine bk ?_; refine blk_far ?_ NB178_214.out _; refine bk ?_; refine blk_far ?_ NB178_214.out _; refine bk ?_; exact BK178.out) hb); replace BK209 := Aside0.mk (blk_below (g := gb209) (o := .cells #[.int .i64 t221, .int .i64 t222] 24 (0, 0)) (by refine bk ?_; refine blk_far ?_ NB209_214.out _; refine bk ?_; refine blk_far ?_ NB209_214.out _; refine bk ?_; exact BK209.out) hb); replace BK214 := Aside0.mk (blk_below (g := gb214) (o := .cells #[.int .i64 t227, .int .i64 t228] 24 (0, 0)) (by refine bk ?_; refine blk_put (cs := #[.int .i64 t227, .int .i64 t213]) ?_ 1 _ rfl; refine bk ?_; refine blk_put (cs := #[.int .i64 t212, .int .i64 t213]) ?_ 0 _ rfl; refine bk ?_; exact BK214.out) hb); replace HB := hs' HB (by repeat first | (with_reducible exact HB.out) | refine bl1 ?_ | (with_reducible refine bset ?_ ‹_›) | exact HB.out) hb; clear hb ho288; obtain ⟨Ao289, co289, eo289⟩ := Kd.R_slice HO231.out; subst eo289) | ((with_reducible refine gate_callee (f := 14) rfl ?_); refine goesL_ (some 90) rfl rfl Try.func14 (by kernel_rfl) rfl #[.slice Ao289 y229.length co289] rfl (by (try simp only [mp]); first | done | rfl | (simp only [ld]; rfl)) ?_; (with_reducible refine (serinettelaw01_numbers.calls kj188 _ _ y229 true _ ?side1 ?side2 A272.out).mono ?_); (case side1 => repeat (first | exact (Kd.R_reads' HO231.out).2.2 | (with_reducible refine Kd.C_alloc ?_ _) | (with_reducible refine Kd.C_drewN ?_ _) | (with_reducible refine Kd.C_drew ?_))); (case side2 => exact (Kd.R_reads' HO231.out).2.1); rintro e w290 ⟨rfl, hb⟩; refine ⟨_, rfl, ?_⟩; replace HO231 := Aside0.mk (Kd.R_below (by (with_reducible repeat (first | apply Kd.R_alloc | apply Kd.R_drewN | apply Kd.R_drew)); exact HO231.out) hb); replace BK170 := kb BK170 hb; replace BK171 := kb BK171 hb; replace BK172 := kb BK172 hb; replace BK175 := kb BK175 hb; replace BK178 := kb BK178 hb; replace BK209 := kb BK209 hb; replace BK214 := kb BK214 hb; replace HB := hs' HB (by repeat first | (with_reducible exact HB.out) | refine bl1 ?_ | (with_reducible refine bset ?_ ‹_›) | exact HB.out) hb; (try clear hb); (try clear hb2); (try clear hk); (try clear hi); have hcz291_0 : w290.cell? ⟨gb209, 0, none⟩ = some (.int .i64 t221) := (blk_cell BK209.out 0).trans rfl; have hcz291_1 : w290.cell? ⟨gb209, 1, none⟩ = some (.int .i64 t222) := (blk_cell BK209.out 1).trans rfl; have hfz291_0 := blk_frozen BK209.out 0; have hfz291_1 := blk_frozen BK209.out 1; have hcz292_0 : w290.cell? ⟨gb214, 0, none⟩ = some (.int .i64 t227) := (blk_cell BK214.out 0).trans rfl; have hcz292_1 : w290.cell? ⟨gb214, 1, none⟩ = some (.int .i64 t228) := (blk_cell BK214.out 1).trans rfl; have hfz292_0 := blk_frozen BK214.out 0; have hfz292_1 := blk_frozen BK214.out 1))
            go_meet
            case rel => exact ⟨_, ((!(t221 == t227) || (!(t222 == t228)))), (by first | rfl | (simp; done) | (simp [*]; done)), H', ⟨by have := HJ5.out; have := HJ40.out; have := HJ188.out; first | omega | exact Nat.le_refl _⟩, ⟨by refine bk ?_; exact BK170.out⟩, ⟨by refine bk ?_; exact BK171.out⟩, ⟨by refine bk ?_; exact BK172.out⟩, ⟨by refine bk ?_; exact BK175.out⟩, ⟨by refine bk ?_; exact BK178.out⟩, ⟨by refine bk ?_; exact BK209.out⟩, ⟨by refine bk ?_; exact BK214.out⟩, ⟨by repeat first | exact HB.out | refine bset ?_ ‹_› | apply below_alloc | apply pw_below_drewN | apply below_drew1⟩⟩
           ·
            replace c273 := Bool.eq_false_iff.mpr c273
            subst c273
            rw [if_neg (show ¬ (false = true) by decide)] at H
            have H' := Aside0.mk H
            clear H
            have hnb293 := NB209_170.out
            have hnc293 := NB170_209.out
            have hnb294 := NB209_171.out
            have hnc294 := NB171_209.out
            have hnb295 := NB209_172.out
            have hnc295 := NB172_209.out
            have hnb296 := NB209_175.out
            have hnc296 := NB175_209.out
            have hnb297 := NB209_178.out
            have hnc297 := NB178_209.out
            have hnb298 := NB209_214.out
            have hnc298 := NB214_209.out
            have hcz299_0 : w269.cell? ⟨gb209, 0, none⟩ = some (.int .i64 t221) := (blk_cell BK209.out 0).trans rfl
            have hcz299_1 : w269.cell? ⟨gb209, 1, none⟩ = some (.int .i64 t222) := (blk_cell BK209.out 1).trans rfl
            have hfz299_0 := blk_frozen BK209.out 0
            have hfz299_1 := blk_frozen BK209.out 1
            have hnb300 := NB214_170.out
            have hnc300 := NB170_214.out
            have hnb301 := NB214_171.out
            have hnc301 := NB171_214.out
            have hnb302 := NB214_172.out
            have hnc302 := NB172_214.out
            have hnb303 := NB214_175.out
            have hnc303 := NB175_214.out
            have hnb304 := NB214_178.out
            have hnc304 := NB178_214.out
            have hcz305_0 : w269.cell? ⟨gb214, 0, none⟩ = some (.int .i64 t212) := (blk_cell BK214.out 0).trans rfl
            have hcz305_1 : w269.cell? ⟨gb214, 1, none⟩ = some (.int .i64 t213) := (blk_cell BK214.out 1).trans rfl
            have hfz305_0 := blk_frozen BK214.out 0
            have hfz305_1 := blk_frozen BK214.out 1
            go_wp2_with (first | ((with_reducible refine gate_dst (N := 89) rfl ?_); (try (refine gate_guard (by rfl) ?_; dsimp only)); refine Kd.R_lit k24 _ 24 ?hg (N := 89) ?hd (xs := ([(⟨t221, t222⟩ : S24), (⟨t227, t228⟩ : S24)] : List (S24))) (inner := [.int .i64 t221, .int .i64 t222, .int .i64 t227, .int .i64 t228]) (ok := fun _ => True) (okp := fun _ => True) ?hr ?hp (fun _ hk => hk) trivial (Below.refl _ _) (Nat.le_refl _) (by simp) ?_; (case hd => rfl); (case hg => rfl); (case hr => first | (go_simp; done) | (go_simp; rfl)); (case hp => exact (Reps.c2 (show Kd.M k24 _ _ _ (⟨t221, t222⟩ : S24) [.int .i64 t221, .int .i64 t222] from (k24_mkM _ _ _ (⟨t221, t222⟩ : S24) )) (Reps.c2 (show Kd.M k24 _ _ _ (⟨t227, t228⟩ : S24) [.int .i64 t227, .int .i64 t228] from (k24_mkM _ _ _ (⟨t227, t228⟩ : S24) )) (Reps.none _ _)))); intro v230 w306 ho307 hb hg_ hnew_; clear hg_ hnew_; (first | rw [← Ny229.out] at ho307 | (simp only [Int.reduceToNat] at ho307; rw [← Ny229.out] at ho307)); have HO231 := Aside0.mk (Kd.R_lower (Kd.R_newB (Kd.R_newB (Kd.R_newB (Kd.R_newB (Kd.R_newB (Kd.R_newB (Kd.R_newB ho307 (g := gb170) (o := .cells #[.int .i64 a0_0, .int .i64 a0_1] 24 (0, 0)) (by refine bk ?_; refine blk_far ?_ NB170_214.out _; refine bk ?_; refine blk_far ?_ NB170_214.out _; refine bk ?_; exact BK170.out)) (g := gb171) (o := .cells #[.int .i64 a1_0, .int .i64 a1_1] 24 (0, 0)) (by refine bk ?_; refine blk_far ?_ NB171_214.out _; refine bk ?_; refine blk_far ?_ NB171_214.out _; refine bk ?_; exact BK171.out)) (g := gb172) (o := .cells #[.int .i64 a2_0, .int .i64 a2_1] 24 (0, 0)) (by refine bk ?_; refine blk_far ?_ NB172_214.out _; refine bk ?_; refine blk_far ?_ NB172_214.out _; refine bk ?_; exact BK172.out)) (g := gb175) (o := .cells #[.int .i64 t173, .int .i64 t174] 24 (0, 0)) (by refine bk ?_; refine blk_far ?_ NB175_214.out _; refine bk ?_; refine blk_far ?_ NB175_214.out _; refine bk ?_; exact BK175.out)) (g := gb178) (o := .cells #[.int .i64 t176, .int .i64 t177] 24 (0, 0)) (by refine bk ?_; refine blk_far ?_ NB178_214.out _; refine bk ?_; refine blk_far ?_ NB178_214.out _; refine bk ?_; exact BK178.out)) (g := gb209) (o := .cells #[.int .i64 t221, .int .i64 t222] 24 (0, 0)) (by refine bk ?_; refine blk_far ?_ NB209_214.out _; refine bk ?_; refine blk_far ?_ NB209_214.out _; refine bk ?_; exact BK209.out)) (g := gb214) (o := .cells #[.int .i64 t227, .int .i64 t228] 24 (0, 0)) (by refine bk ?_; refine blk_put (cs := #[.int .i64 t227, .int .i64 t213]) ?_ 1 _ rfl; refine bk ?_; refine blk_put (cs := #[.int .i64 t212, .int .i64 t213]) ?_ 0 _ rfl; refine bk ?_; exact BK214.out)) (below_size (by repeat first | (with_reducible exact HB.out) | refine bl1 ?_ | (with_reducible refine bset ?_ ‹_›) | exact HB.out))); replace BK170 := Aside0.mk (blk_below (g := gb170) (o := .cells #[.int .i64 a0_0, .int .i64 a0_1] 24 (0, 0)) (by refine bk ?_; refine blk_far ?_ NB170_214.out _; refine bk ?_; refine blk_far ?_ NB170_214.out _; refine bk ?_; exact BK170.out) hb); replace BK171 := Aside0.mk (blk_below (g := gb171) (o := .cells #[.int .i64 a1_0, .int .i64 a1_1] 24 (0, 0)) (by refine bk ?_; refine blk_far ?_ NB171_214.out _; refine bk ?_; refine blk_far ?_ NB171_214.out _; refine bk ?_; exact BK171.out) hb); replace BK172 := Aside0.mk (blk_below (g := gb172) (o := .cells #[.int .i64 a2_0, .int .i64 a2_1] 24 (0, 0)) (by refine bk ?_; refine blk_far ?_ NB172_214.out _; refine bk ?_; refine blk_far ?_ NB172_214.out _; refine bk ?_; exact BK172.out) hb); replace BK175 := Aside0.mk (blk_below (g := gb175) (o := .cells #[.int .i64 t173, .int .i64 t174] 24 (0, 0)) (by refine bk ?_; refine blk_far ?_ NB175_214.out _; refine bk ?_; refine blk_far ?_ NB175_214.out _; refine bk ?_; exact BK175.out) hb); replace BK178 := Aside0.mk (blk_below (g := gb178) (o := .cells #[.int .i64 t176, .int .i64 t177] 24 (0, 0)) (by refine bk ?_; refine blk_far ?_ NB178_214.out _; refine bk ?_; refine blk_far ?_ NB178_214.out _; refine bk ?_; exact BK178.out) hb); replace BK209 := Aside0.mk (blk_below (g := gb209) (o := .cells #[.int .i64 t221, .int .i64 t222] 24 (0, 0)) (by refine bk ?_; refine blk_far ?_ NB209_214.out _; refine bk ?_; refine blk_far ?_ NB209_214.out _; refine bk ?_; exact BK209.out) hb); replace BK214 := Aside0.mk (blk_below (g := gb214) (o := .cells #[.int .i64 t227, .int .i64 t228] 24 (0, 0)) (by refine bk ?_; refine blk_put (cs := #[.int .i64 t227, .int .i64 t213]) ?_ 1 _ rfl; refine bk ?_; refine blk_put (cs := #[.int .i64 t212, .int .i64 t213]) ?_ 0 _ rfl; refine bk ?_; exact BK214.out) hb); replace HB := hs' HB (by repeat first | (with_reducible exact HB.out) | refine bl1 ?_ | (with_reducible refine bset ?_ ‹_›) | exact HB.out) hb; clear hb ho307; obtain ⟨Ao308, co308, eo308⟩ := Kd.R_slice HO231.out; subst eo308) | ((with_reducible refine gate_callee (f := 14) rfl ?_); refine goesL_ (some 90) rfl rfl Try.func14 (by kernel_rfl) rfl #[.slice Ao308 y229.length co308] rfl (by (try simp only [mp]); first | done | rfl | (simp only [ld]; rfl)) ?_; (with_reducible refine (serinettelaw01_numbers.calls kj188 _ _ y229 false _ ?side1 ?side2 A272.out).mono ?_); (case side1 => repeat (first | exact (Kd.R_reads' HO231.out).2.2 | (with_reducible refine Kd.C_alloc ?_ _) | (with_reducible refine Kd.C_drewN ?_ _) | (with_reducible refine Kd.C_drew ?_))); (case side2 => exact (Kd.R_reads' HO231.out).2.1); rintro e w309 ⟨rfl, hb⟩; refine ⟨_, rfl, ?_⟩; replace HO231 := Aside0.mk (Kd.R_below (by (with_reducible repeat (first | apply Kd.R_alloc | apply Kd.R_drewN | apply Kd.R_drew)); exact HO231.out) hb); replace BK170 := kb BK170 hb; replace BK171 := kb BK171 hb; replace BK172 := kb BK172 hb; replace BK175 := kb BK175 hb; replace BK178 := kb BK178 hb; replace BK209 := kb BK209 hb; replace BK214 := kb BK214 hb; replace HB := hs' HB (by repeat first | (with_reducible exact HB.out) | refine bl1 ?_ | (with_reducible refine bset ?_ ‹_›) | exact HB.out) hb; (try clear hb); (try clear hb2); (try clear hk); (try clear hi)))
            go_meet
            case rel => exact ⟨_, (false), (by first | rfl | (simp; done) | (simp [*]; done)), H', ⟨by have := HJ5.out; have := HJ40.out; have := HJ188.out; first | omega | exact Nat.le_refl _⟩, ⟨by refine bk ?_; exact BK170.out⟩, ⟨by refine bk ?_; exact BK171.out⟩, ⟨by refine bk ?_; exact BK172.out⟩, ⟨by refine bk ?_; exact BK175.out⟩, ⟨by refine bk ?_; exact BK178.out⟩, ⟨by refine bk ?_; exact BK209.out⟩, ⟨by refine bk ?_; exact BK214.out⟩, ⟨by repeat first | exact HB.out | refine bset ?_ ‹_› | apply below_alloc | apply pw_below_drewN | apply below_drew1⟩⟩
          case rest =>
           clear HC259
           (try clear c1); (try clear c2); (try clear p2); (try clear c3); (try clear c12); (try clear c13); (try clear c14); (try clear c22); (try clear c23); (try clear c24); (try clear c25); (try clear c27); (try clear c28); (try clear c29); (try clear c30); (try clear c227); (try clear c228); (try clear c236); (try clear c237); (try clear c238); (try clear c239); (try clear c240); (try clear c241); (try clear c243); (try clear c244); (try clear c245); (try clear c246); (try clear c247); (try clear c253); (try clear c273); (try clear c274); (try clear c275); (try clear c276); (try clear c277); (try clear c278); (try clear c279); (try clear c281); (try clear c282); (try clear c283); (try clear c284); (try clear c285); (try clear c293); (try clear c294); (try clear c295); (try clear c296); (try clear c297); (try clear c298); (try clear c300); (try clear c301); (try clear c302); (try clear c303); (try clear c304); (try clear hcz223_0); (try clear hcz223_1); (try clear hcz229_0); (try clear hcz229_1); (try clear hcz234_0); (try clear hcz234_1); (try clear hcz235_0); (try clear hcz235_1); (try clear hcz242_0); (try clear hcz242_1); (try clear hcz248_0); (try clear hcz248_1); (try clear hcz280_0); (try clear hcz280_1); (try clear hcz286_0); (try clear hcz286_1); (try clear hcz291_0); (try clear hcz291_1); (try clear hcz292_0); (try clear hcz292_1); (try clear hcz299_0); (try clear hcz299_1); (try clear hcz305_0); (try clear hcz305_1); (try clear hfz223_0); (try clear hfz223_1); (try clear hfz229_0); (try clear hfz229_1); (try clear hfz234_0); (try clear hfz234_1); (try clear hfz235_0); (try clear hfz235_1); (try clear hfz242_0); (try clear hfz242_1); (try clear hfz248_0); (try clear hfz248_1); (try clear hfz280_0); (try clear hfz280_1); (try clear hfz286_0); (try clear hfz286_1); (try clear hfz291_0); (try clear hfz291_1); (try clear hfz292_0); (try clear hfz292_1); (try clear hfz299_0); (try clear hfz299_1); (try clear hfz305_0); (try clear hfz305_1)
           obtain ⟨kq, x95_258, rfl, HA, HJ258, BK170, BK171, BK172, BK175, BK178, BK209, BK214, HB⟩ := hcut
           cases kq with
           | zero => exact absurd HA.out (by simp [serinettelaw01_NumberField.j3])
           | succ kj258 =>
            have H := HA.out
            clear HA
            simp only [serinettelaw01_NumberField.j3] at H
            by_cases c310 : x95_258 = true
            ·
             subst c310
             rw [if_pos rfl] at H
             exact absurd (H.trans (congrArg some hr.out)) (by simp)
            ·
             replace c310 := Bool.eq_false_iff.mpr c310
             subst c310
             rw [if_neg (show ¬ (false = true) by decide)] at H
             have HC311 := Aside0.mk H
             clear H
             go_upto_region 15 with (fail)
             go_cut [110] (fun v110 wc => ∃ (kq : Nat) (x110_310 : Bool), v110 = .bool x110_310 ∧ Aside0 (serinettelaw01_NumberField.j4 kq x110_310 a0_0 a0_1 a1_0 a1_1 a2_0 a2_1 = some r) ∧ Aside0 (kq ≤ kj258) ∧ Aside0 (wc.heap[gb170]? = some (.cells #[.int .i64 a0_0, .int .i64 a0_1] 24 (0, 0))) ∧ Aside0 (wc.heap[gb171]? = some (.cells #[.int .i64 a1_0, .int .i64 a1_1] 24 (0, 0))) ∧ Aside0 (wc.heap[gb172]? = some (.cells #[.int .i64 a2_0, .int .i64 a2_1] 24 (0, 0))) ∧ Aside0 (wc.heap[gb175]? = some (.cells #[.int .i64 t173, .int .i64 t174] 24 (0, 0))) ∧ Aside0 (wc.heap[gb178]? = some (.cells #[.int .i64 t176, .int .i64 t177] 24 (0, 0))) ∧ Aside0 (wc.heap[gb209]? = some (.cells #[.int .i64 t221, .int .i64 t222] 24 (0, 0))) ∧ Aside0 (wc.heap[gb214]? = some (.cells #[.int .i64 t227, .int .i64 t228] 24 (0, 0))) ∧ Aside0 (Below w.heap.size w wc))
             case first =>
              have H := HC311.out
              clear HC311
              replace H := Option.bind_eq_some_iff.mp H
              obtain ⟨⟨t233, t234⟩, A3120, H⟩ := H
              (try dsimp only at H)
              have A312 := Aside0.mk A3120
              clear A3120
              obtain ⟨y235, hy235⟩ : ∃ y_ : List (S24), y_ = (([(⟨t233, t234⟩ : S24)] : List (S24))) := ⟨_, rfl⟩
              replace H : ((serinettelaw01_numbers.f kj258 y235).bind fun t238 => (if t238 = true then ((ratio_Div.f kj258 a0_0 a0_1 a1_0 a1_1).bind fun bt239 => ((ratio_Mul.f kj258 bt239.1 bt239.2 a1_0 a1_1).bind fun bt241 => ((serinetteref01_Clean.f kj258 a0_0 a0_1).bind fun bt243 => (serinettelaw01_NumberField.j4 kj258 (!(bt241.1 == bt243.1) || (!(bt241.2 == bt243.2))) a0_0 a0_1 a1_0 a1_1 a2_0 a2_1)))) else (serinettelaw01_NumberField.j4 kj258 false a0_0 a0_1 a1_0 a1_1 a2_0 a2_1))) = some r := by first | (rw [hy235]; with_reducible exact H) | (have H2_ := (Option.bind_some _ _).symm.trans H; rw [hy235]; with_reducible exact H2_) | (have H2_ := (Option.bind_some _ _).symm.trans H; with_reducible exact H2_) | with_reducible exact H | (rw [hy235]; exact H) | exact H
              have Ny235 := Aside0.mk hy235
              clear hy235
              replace H := Option.bind_eq_some_iff.mp H
              obtain ⟨t238, A3130, H⟩ := H
              (try dsimp only at H)
              have A313 := Aside0.mk A3130
              clear A3130
              by_cases c314 : t238 = true
              ·
               subst c314
               rw [if_pos rfl] at H
               replace H := Option.bind_eq_some_iff.mp H
               obtain ⟨⟨t239, t240⟩, A3150, H⟩ := H
               (try dsimp only at H)
               have A315 := Aside0.mk A3150
               clear A3150
               replace H := Option.bind_eq_some_iff.mp H
               obtain ⟨⟨t241, t242⟩, A3160, H⟩ := H
               (try dsimp only at H)
               have A316 := Aside0.mk A3160
               clear A3160
               replace H := Option.bind_eq_some_iff.mp H
               obtain ⟨⟨t243, t244⟩, A3170, H⟩ := H
               (try dsimp only at H)
               have A317 := Aside0.mk A3170
               clear A3170
               have H' := Aside0.mk H
               clear H
               try go_wp2
               replace BK170 := kd BK170
               replace BK171 := kd BK171
               replace BK172 := kd BK172
               replace BK175 := kd BK175
               replace BK178 := kd BK178
               replace BK209 := kd BK209
               replace BK214 := kd BK214
               replace HB := Aside0.mk (below_drew1 HB.out)
               refine start_ (n := 15) (S := fun w' => w'.cell? ⟨gb170, 0, none⟩ = some (.int .i64 a0_0) ∧ w'.cell? ⟨gb170, 1, none⟩ = some (.int .i64 a0_1) ∧ w'.cell? ⟨gb171, 0, none⟩ = some (.int .i64 a1_0) ∧ w'.cell? ⟨gb171, 1, none⟩ = some (.int .i64 a1_1)) (ds := []) (bA 15 0) (by kernel_rfl) rfl rfl ⟨(blk_cell BK170.out 0).trans rfl, (blk_cell BK170.out 1).trans rfl, (blk_cell BK171.out 0).trans rfl, (blk_cell BK171.out 1).trans rfl⟩ (fun hHeld => ?_); refine with_tabW serinettelaw01_NumberField.tab15 serinettelaw01_NumberField.bits15 (fun HT_ HW_ => ?_)
               generalize wc.drew = w318 at BK170 BK171 BK172 BK175 BK178 BK209 BK214 HB hHeld ⊢
               refine take_ (i := 0) (N := some 96) (v := ?_) (a' := ?_) (bA 15 1) rfl rfl (take_ofW HT_.out HW_.out (by kernel_rfl)) (fun _ _ _ h => h) (Or.inl ⟨by rfl, ?_⟩) hHeld ?_ ?_
               rotate_left
               ·
                rintro w' ⟨s0, s1, s2, s3⟩
                go_simp; with_reducible rfl
               rotate_left
               ·
                simp only [ap]
                rfl
               refine take_ (i := 1) (N := some 97) (v := ?_) (a' := ?_) (bA 15 3) rfl rfl (take_ofW HT_.out HW_.out (by kernel_rfl)) (fun _ _ _ h => h) (Or.inl ⟨by rfl, ?_⟩) hHeld ?_ ?_
               rotate_left
               ·
                rintro w' ⟨s0, s1, s2, s3⟩
                go_simp; with_reducible rfl
               rotate_left
               ·
                simp only [ap]
                rfl
               refine one_ (i := 2) (N := some 98) (bA 15 7) rfl rfl (one_of HT_.out (by kernel_rfl)) (by decide) (fun K hK => ?_)
               refine goes_ Try.func17 (by kernel_rfl) rfl #[.agg #[.int .i64 a0_0, .int .i64 a0_1], .agg #[.int .i64 a1_0, .int .i64 a1_1]] (by rfl) rfl rfl (by (try simp only [mp]); first | done | rfl | (simp only [ld]; rfl)) ?_
               with_reducible refine (ratio_Div.calls kj258 a0_0 a0_1 a1_0 a1_1 t233 t234 _ A312.out).mono ?_
               rintro e w319 ⟨rfl, hb⟩
               refine ⟨_, rfl, ?_⟩
               replace BK170 := kb BK170 hb
               replace BK171 := kb BK171 hb
               replace BK172 := kb BK172 hb
               replace BK175 := kb BK175 hb
               replace BK178 := kb BK178 hb
               replace BK209 := kb BK209 hb
               replace BK214 := kb BK214 hb
               replace HB := hs' HB (by repeat first | (with_reducible exact HB.out) | refine bl1 ?_ | (with_reducible refine bset ?_ ‹_›) | exact HB.out) hb
               (try clear hb); (try clear hb2); (try clear hk); (try clear hi)
               refine hK.out _ _ ⟨(blk_cell BK170.out 0).trans rfl, (blk_cell BK170.out 1).trans rfl, (blk_cell BK171.out 0).trans rfl, (blk_cell BK171.out 1).trans rfl⟩ (fun hHeld => ?_)
               clear hK K
               refine norm_ (a' := ?_) ?_ ?_
               rotate_left
               ·
                show Act.put _ (some 98) _ = _
                simp only [ap]; rfl
               refine one_ (i := 3) (N := some 99) (bA 15 15) rfl rfl (one_of HT_.out (by kernel_rfl)) (by decide) (fun K hK => ?_)
               refine Kd.R_lit_step k24 _ 24 ?hg (N := 99) ?hd (xs := ([(⟨t233, t234⟩ : S24)] : List (S24))) (inner := [.int .i64 t233, .int .i64 t234]) (ok := fun _ => True) (okp := fun _ => True) ?hr ?hp (fun _ hk => hk) trivial (Below.refl _ _) (Nat.le_refl _) (by simp) ?_; (case hd => rfl); (case hg => rfl); (case hr => first | (go_simp; done) | (go_simp; rfl)); (case hp => exact (Reps.c2 (show Kd.M k24 _ _ _ (⟨t233, t234⟩ : S24) [.int .i64 t233, .int .i64 t234] from (k24_mkM _ _ _ (⟨t233, t234⟩ : S24) )) (Reps.none _ _)))
               intro v236 w320 ho321 hb hg_ hnew_
               clear hg_ hnew_
               (first | rw [← Ny235.out] at ho321 | (simp only [Int.reduceToNat] at ho321; rw [← Ny235.out] at ho321))
               have HO237 := Aside0.mk (Kd.R_lower (Kd.R_newB (Kd.R_newB (Kd.R_newB (Kd.R_newB (Kd.R_newB (Kd.R_newB (Kd.R_newB ho321 (g := gb170) (o := .cells #[.int .i64 a0_0, .int .i64 a0_1] 24 (0, 0)) (bk BK170.out)) (g := gb171) (o := .cells #[.int .i64 a1_0, .int .i64 a1_1] 24 (0, 0)) (bk BK171.out)) (g := gb172) (o := .cells #[.int .i64 a2_0, .int .i64 a2_1] 24 (0, 0)) (bk BK172.out)) (g := gb175) (o := .cells #[.int .i64 t173, .int .i64 t174] 24 (0, 0)) (bk BK175.out)) (g := gb178) (o := .cells #[.int .i64 t176, .int .i64 t177] 24 (0, 0)) (bk BK178.out)) (g := gb209) (o := .cells #[.int .i64 t221, .int .i64 t222] 24 (0, 0)) (bk BK209.out)) (g := gb214) (o := .cells #[.int .i64 t227, .int .i64 t228] 24 (0, 0)) (bk BK214.out)) (below_size (by repeat first | (with_reducible exact HB.out) | refine bl1 ?_ | (with_reducible refine bset ?_ ‹_›) | exact HB.out)))
               replace BK170 := kb BK170 hb
               replace BK171 := kb BK171 hb
               replace BK172 := kb BK172 hb
               replace BK175 := kb BK175 hb
               replace BK178 := kb BK178 hb
               replace BK209 := kb BK209 hb
               replace BK214 := kb BK214 hb
               replace HB := hs' HB (by repeat first | (with_reducible exact HB.out) | refine bl1 ?_ | (with_reducible refine bset ?_ ‹_›) | exact HB.out) hb
               clear hb ho321
               obtain ⟨Ao322, co322, eo322⟩ := Kd.R_slice HO237.out
               (first | subst eo322 | (injection eo322 with f1_ f2_ f3_; have f4_ := f1_.symm; have f5_ := f3_.symm; clear f1_ f2_ f3_; subst f4_; subst f5_))
               refine hK.out _ _ ⟨(blk_cell BK170.out 0).trans rfl, (blk_cell BK170.out 1).trans rfl, (blk_cell BK171.out 0).trans rfl, (blk_cell BK171.out 1).trans rfl⟩ (fun hHeld => ?_)
               clear hK K
               refine norm_ (a' := ?_) ?_ ?_
               rotate_left
               ·
                show Act.put _ (some 99) _ = _
                simp only [ap]; rfl
               refine one_ (i := 4) (N := some 100) (bA 15 31) rfl rfl (one_of HT_.out (by kernel_rfl)) (by decide) (fun K hK => ?_)
               refine goes_ Try.func14 (by kernel_rfl) rfl #[.slice Ao322 y235.length co322] (by rfl) rfl rfl (by (try simp only [mp]); first | done | rfl | (simp only [ld]; rfl)) ?_
               with_reducible refine (serinettelaw01_numbers.calls kj258 _ _ y235 true _ ?side1 ?side2 A313.out).mono ?_
               (case side1 => repeat (first | exact (Kd.R_reads' HO237.out).2.2 | (with_reducible refine Kd.C_alloc ?_ _) | (with_reducible refine Kd.C_drewN ?_ _) | (with_reducible refine Kd.C_drew ?_)))
               (case side2 => exact (Kd.R_reads' HO237.out).2.1)
               rintro e w323 ⟨rfl, hb⟩
               refine ⟨_, rfl, ?_⟩
               replace HO237 := Aside0.mk (Kd.R_below (by (with_reducible repeat (first | apply Kd.R_alloc | apply Kd.R_drewN | apply Kd.R_drew)); exact HO237.out) hb)
               replace BK170 := kb BK170 hb
               replace BK171 := kb BK171 hb
               replace BK172 := kb BK172 hb
               replace BK175 := kb BK175 hb
               replace BK178 := kb BK178 hb
               replace BK209 := kb BK209 hb
               replace BK214 := kb BK214 hb
               replace HB := hs' HB (by repeat first | (with_reducible exact HB.out) | refine bl1 ?_ | (with_reducible refine bset ?_ ‹_›) | exact HB.out) hb
               (try clear hb); (try clear hb2); (try clear hk); (try clear hi)
               refine hK.out _ _ ⟨(blk_cell BK170.out 0).trans rfl, (blk_cell BK170.out 1).trans rfl, (blk_cell BK171.out 0).trans rfl, (blk_cell BK171.out 1).trans rfl⟩ (fun hHeld => ?_)
               clear hK K
               refine norm_ (a' := ?_) ?_ ?_
               rotate_left
               ·
                show Act.put _ (some 100) _ = _
                simp only [ap]; rfl
               refine pure_ (i := 5) (N := some 101) (v := ?_) (a' := ?_) (bA 15 63) rfl rfl (any_of HT_.out (by kernel_rfl)) (fun _ _ _ h => h) (Or.inl ⟨by rfl, ?_⟩) ?_ ?_
               rotate_left
               ·
                intro w'
                go_simp; with_reducible rfl
               rotate_left
               ·
                simp only [ap]
                rfl
               refine take_ (i := 6) (N := some 102) (v := ?_) (a' := ?_) (bA 15 127) rfl rfl (take_ofW HT_.out HW_.out (by kernel_rfl)) (fun _ _ _ h => h) (Or.inl ⟨by rfl, ?_⟩) hHeld ?_ ?_
               rotate_left
               ·
                rintro w' ⟨s0, s1, s2, s3⟩
                go_simp; with_reducible rfl
               rotate_left
               ·
                simp only [ap]
                rfl
               refine take_ (i := 7) (N := some 103) (v := ?_) (a' := ?_) (bA 15 255) rfl rfl (take_ofW HT_.out HW_.out (by kernel_rfl)) (fun _ _ _ h => h) (Or.inl ⟨by rfl, ?_⟩) hHeld ?_ ?_
               rotate_left
               ·
                rintro w' ⟨s0, s1, s2, s3⟩
                go_simp; with_reducible rfl
               rotate_left
               ·
                simp only [ap]
                rfl
               refine take_ (i := 9) (N := some 105) (v := ?_) (a' := ?_) (bA 15 767) rfl rfl (take_ofW HT_.out HW_.out (by kernel_rfl)) (fun _ _ _ h => h) (Or.inl ⟨by rfl, ?_⟩) hHeld ?_ ?_
               rotate_left
               ·
                rintro w' ⟨s0, s1, s2, s3⟩
                go_simp; with_reducible rfl
               rotate_left
               ·
                simp only [ap]
                rfl
               refine take_ (i := 11) (N := some 107) (v := ?_) (a' := ?_) (bA 15 2815) rfl rfl (take_ofW HT_.out HW_.out (by kernel_rfl)) (fun _ _ _ h => h) (Or.inl ⟨by rfl, ?_⟩) hHeld ?_ ?_
               rotate_left
               ·
                rintro w' ⟨s0, s1, s2, s3⟩
                go_simp; with_reducible rfl
               rotate_left
               ·
                simp only [ap]
                rfl
               refine one_ (i := 8) (N := some 104) (bA 15 3071) rfl rfl (one_of HT_.out (by kernel_rfl)) (by decide) (fun K hK => ?_)
               refine goes_ Try.func17 (by kernel_rfl) rfl #[.agg #[.int .i64 a0_0, .int .i64 a0_1], .agg #[.int .i64 a1_0, .int .i64 a1_1]] (by rfl) rfl rfl (by (try simp only [mp]); first | done | rfl | (simp only [ld]; rfl)) ?_
               with_reducible refine (ratio_Div.calls kj258 a0_0 a0_1 a1_0 a1_1 t239 t240 _ A315.out).mono ?_
               rintro e w324 ⟨rfl, hb⟩
               refine ⟨_, rfl, ?_⟩
               replace HO237 := Aside0.mk (Kd.R_below (by (with_reducible repeat (first | apply Kd.R_alloc | apply Kd.R_drewN | apply Kd.R_drew)); exact HO237.out) hb)
               replace BK170 := kb BK170 hb
               replace BK171 := kb BK171 hb
               replace BK172 := kb BK172 hb
               replace BK175 := kb BK175 hb
               replace BK178 := kb BK178 hb
               replace BK209 := kb BK209 hb
               replace BK214 := kb BK214 hb
               replace HB := hs' HB (by repeat first | (with_reducible exact HB.out) | refine bl1 ?_ | (with_reducible refine bset ?_ ‹_›) | exact HB.out) hb
               (try clear hb); (try clear hb2); (try clear hk); (try clear hi)
               refine hK.out _ _ ⟨(blk_cell BK170.out 0).trans rfl, (blk_cell BK170.out 1).trans rfl, (blk_cell BK171.out 0).trans rfl, (blk_cell BK171.out 1).trans rfl⟩ (fun hHeld => ?_)
               clear hK K
               refine norm_ (a' := ?_) ?_ ?_
               rotate_left
               ·
                show Act.put _ (some 104) _ = _
                simp only [ap]; rfl
               refine one_ (i := 10) (N := some 106) (bA 15 4095) rfl rfl (one_of HT_.out (by kernel_rfl)) (by decide) (fun K hK => ?_)
               refine goes_ Try.func13 (by kernel_rfl) rfl #[.agg #[.int .i64 t239, .int .i64 t240], .agg #[.int .i64 a1_0, .int .i64 a1_1]] (by rfl) rfl rfl (by (try simp only [mp]); first | done | rfl | (simp only [ld]; rfl)) ?_
               with_reducible refine (ratio_Mul.calls kj258 t239 t240 a1_0 a1_1 t241 t242 _ A316.out).mono ?_
               rintro e w325 ⟨rfl, hb⟩
               refine ⟨_, rfl, ?_⟩
               replace HO237 := Aside0.mk (Kd.R_below (by (with_reducible repeat (first | apply Kd.R_alloc | apply Kd.R_drewN | apply Kd.R_drew)); exact HO237.out) hb)
               replace BK170 := kb BK170 hb
               replace BK171 := kb BK171 hb
               replace BK172 := kb BK172 hb
               replace BK175 := kb BK175 hb
               replace BK178 := kb BK178 hb
               replace BK209 := kb BK209 hb
               replace BK214 := kb BK214 hb
               replace HB := hs' HB (by repeat first | (with_reducible exact HB.out) | refine bl1 ?_ | (with_reducible refine bset ?_ ‹_›) | exact HB.out) hb
               (try clear hb); (try clear hb2); (try clear hk); (try clear hi)
               refine hK.out _ _ ⟨(blk_cell BK170.out 0).trans rfl, (blk_cell BK170.out 1).trans rfl, (blk_cell BK171.out 0).trans rfl, (blk_cell BK171.out 1).trans rfl⟩ (fun hHeld => ?_)
               clear hK K
               refine norm_ (a' := ?_) ?_ ?_
               rotate_left
               ·
                show Act.put _ (some 106) _ = _
                simp only [ap]; rfl
               refine one_ (i := 12) (N := some 108) (bA 15 8191) rfl rfl (one_of HT_.out (by kernel_rfl)) (by decide) (fun K hK => ?_)
               refine goes_ Try.func18 (by kernel_rfl) rfl #[.agg #[.int .i64 a0_0, .int .i64 a0_1]] (by rfl) rfl rfl (by (try simp only [mp]); first | done | rfl | (simp only [ld]; rfl)) ?_
               with_reducible refine (serinetteref01_Clean.calls kj258 a0_0 a0_1 t243 t244 _ A317.out).mono ?_
               rintro e w326 ⟨rfl, hb⟩
               refine ⟨_, rfl, ?_⟩
               replace HO237 := Aside0.mk (Kd.R_below (by (with_reducible repeat (first | apply Kd.R_alloc | apply Kd.R_drewN | apply Kd.R_drew)); exact HO237.out) hb)
               replace BK170 := kb BK170 hb
               replace BK171 := kb BK171 hb
               replace BK172 := kb BK172 hb
               replace BK175 := kb BK175 hb
               replace BK178 := kb BK178 hb
               replace BK209 := kb BK209 hb
               replace BK214 := kb BK214 hb
               replace HB := hs' HB (by repeat first | (with_reducible exact HB.out) | refine bl1 ?_ | (with_reducible refine bset ?_ ‹_›) | exact HB.out) hb
               (try clear hb); (try clear hb2); (try clear hk); (try clear hi)
               refine hK.out _ _ ⟨(blk_cell BK170.out 0).trans rfl, (blk_cell BK170.out 1).trans rfl, (blk_cell BK171.out 0).trans rfl, (blk_cell BK171.out 1).trans rfl⟩ (fun hHeld => ?_)
               clear hK K
               refine norm_ (a' := ?_) ?_ ?_
               rotate_left
               ·
                show Act.put _ (some 108) _ = _
                simp only [ap]; rfl
               refine pure_ (i := 13) (N := some 109) (v := ?_) (a' := ?_) (bA 15 16383) rfl rfl (any_of HT_.out (by kernel_rfl)) (fun _ _ _ h => h) (Or.inl ⟨by rfl, ?_⟩) ?_ ?_
               rotate_left
               ·
                intro w'
                go_simp; with_reducible rfl
               rotate_left
               ·
                simp only [ap]
                rfl
               refine pure_ (i := 14) (N := some 110) (v := ?_) (a' := ?_) (bA 15 32767) rfl rfl (any_of HT_.out (by kernel_rfl)) (fun _ _ _ h => h) (Or.inl ⟨by rfl, ?_⟩) ?_ ?_
               rotate_left
               ·
                intro w'
                go_simp; with_reducible rfl
               rotate_left
               ·
                simp only [ap]
                rfl
               refine done_ (done_of HT_.out (by kernel_rfl)) ?_
               try go_wp2
               go_meet
               case rel => exact ⟨_, ((!(t241 == t243) || (!(t242 == t244)))), (by first | rfl | (simp; done) | (simp [*]; done)), H', ⟨by have := HJ5.out; have := HJ40.out; have := HJ188.out; have := HJ258.out; first | omega | exact Nat.le_refl _⟩, ⟨by refine bk ?_; exact BK170.out⟩, ⟨by refine bk ?_; exact BK171.out⟩, ⟨by refine bk ?_; exact BK172.out⟩, ⟨by refine bk ?_; exact BK175.out⟩, ⟨by refine bk ?_; exact BK178.out⟩, ⟨by refine bk ?_; exact BK209.out⟩, ⟨by refine bk ?_; exact BK214.out⟩, ⟨by repeat first | exact HB.out | refine bset ?_ ‹_› | apply below_alloc | apply pw_below_drewN | apply below_drew1⟩⟩
              ·
               replace c314 := Bool.eq_false_iff.mpr c314
               subst c314
               rw [if_neg (show ¬ (false = true) by decide)] at H
               have H' := Aside0.mk H
               clear H
               try go_wp2
               replace BK170 := kd BK170
               replace BK171 := kd BK171
               replace BK172 := kd BK172
               replace BK175 := kd BK175
               replace BK178 := kd BK178
               replace BK209 := kd BK209
               replace BK214 := kd BK214
               replace HB := Aside0.mk (below_drew1 HB.out)
               refine start_ (n := 15) (S := fun w' => w'.cell? ⟨gb170, 0, none⟩ = some (.int .i64 a0_0) ∧ w'.cell? ⟨gb170, 1, none⟩ = some (.int .i64 a0_1) ∧ w'.cell? ⟨gb171, 0, none⟩ = some (.int .i64 a1_0) ∧ w'.cell? ⟨gb171, 1, none⟩ = some (.int .i64 a1_1)) (ds := []) (bA 15 0) (by kernel_rfl) rfl rfl ⟨(blk_cell BK170.out 0).trans rfl, (blk_cell BK170.out 1).trans rfl, (blk_cell BK171.out 0).trans rfl, (blk_cell BK171.out 1).trans rfl⟩ (fun hHeld => ?_); refine with_tabW serinettelaw01_NumberField.tab15 serinettelaw01_NumberField.bits15 (fun HT_ HW_ => ?_)
               generalize wc.drew = w327 at BK170 BK171 BK172 BK175 BK178 BK209 BK214 HB hHeld ⊢
               refine take_ (i := 0) (N := some 96) (v := ?_) (a' := ?_) (bA 15 1) rfl rfl (take_ofW HT_.out HW_.out (by kernel_rfl)) (fun _ _ _ h => h) (Or.inl ⟨by rfl, ?_⟩) hHeld ?_ ?_
               rotate_left
               ·
                rintro w' ⟨s0, s1, s2, s3⟩
                go_simp; with_reducible rfl
               rotate_left
               ·
                simp only [ap]
                rfl
               refine take_ (i := 1) (N := some 97) (v := ?_) (a' := ?_) (bA 15 3) rfl rfl (take_ofW HT_.out HW_.out (by kernel_rfl)) (fun _ _ _ h => h) (Or.inl ⟨by rfl, ?_⟩) hHeld ?_ ?_
               rotate_left
               ·
                rintro w' ⟨s0, s1, s2, s3⟩
                go_simp; with_reducible rfl
               rotate_left
               ·
                simp only [ap]
                rfl
               refine one_ (i := 2) (N := some 98) (bA 15 7) rfl rfl (one_of HT_.out (by kernel_rfl)) (by decide) (fun K hK => ?_)
               refine goes_ Try.func17 (by kernel_rfl) rfl #[.agg #[.int .i64 a0_0, .int .i64 a0_1], .agg #[.int .i64 a1_0, .int .i64 a1_1]] (by rfl) rfl rfl (by (try simp only [mp]); first | done | rfl | (simp only [ld]; rfl)) ?_
               with_reducible refine (ratio_Div.calls kj258 a0_0 a0_1 a1_0 a1_1 t233 t234 _ A312.out).mono ?_
               rintro e w328 ⟨rfl, hb⟩
               refine ⟨_, rfl, ?_⟩
               replace BK170 := kb BK170 hb
               replace BK171 := kb BK171 hb
               replace BK172 := kb BK172 hb
               replace BK175 := kb BK175 hb
               replace BK178 := kb BK178 hb
               replace BK209 := kb BK209 hb
               replace BK214 := kb BK214 hb
               replace HB := hs' HB (by repeat first | (with_reducible exact HB.out) | refine bl1 ?_ | (with_reducible refine bset ?_ ‹_›) | exact HB.out) hb
               (try clear hb); (try clear hb2); (try clear hk); (try clear hi)
               refine hK.out _ _ ⟨(blk_cell BK170.out 0).trans rfl, (blk_cell BK170.out 1).trans rfl, (blk_cell BK171.out 0).trans rfl, (blk_cell BK171.out 1).trans rfl⟩ (fun hHeld => ?_)
               clear hK K
               refine norm_ (a' := ?_) ?_ ?_
               rotate_left
               ·
                show Act.put _ (some 98) _ = _
                simp only [ap]; rfl
               refine one_ (i := 3) (N := some 99) (bA 15 15) rfl rfl (one_of HT_.out (by kernel_rfl)) (by decide) (fun K hK => ?_)
               refine Kd.R_lit_step k24 _ 24 ?hg (N := 99) ?hd (xs := ([(⟨t233, t234⟩ : S24)] : List (S24))) (inner := [.int .i64 t233, .int .i64 t234]) (ok := fun _ => True) (okp := fun _ => True) ?hr ?hp (fun _ hk => hk) trivial (Below.refl _ _) (Nat.le_refl _) (by simp) ?_; (case hd => rfl); (case hg => rfl); (case hr => first | (go_simp; done) | (go_simp; rfl)); (case hp => exact (Reps.c2 (show Kd.M k24 _ _ _ (⟨t233, t234⟩ : S24) [.int .i64 t233, .int .i64 t234] from (k24_mkM _ _ _ (⟨t233, t234⟩ : S24) )) (Reps.none _ _)))
               intro v236 w329 ho330 hb hg_ hnew_
               clear hg_ hnew_
               (first | rw [← Ny235.out] at ho330 | (simp only [Int.reduceToNat] at ho330; rw [← Ny235.out] at ho330))
               have HO237 := Aside0.mk (Kd.R_lower (Kd.R_newB (Kd.R_newB (Kd.R_newB (Kd.R_newB (Kd.R_newB (Kd.R_newB (Kd.R_newB ho330 (g := gb170) (o := .cells #[.int .i64 a0_0, .int .i64 a0_1] 24 (0, 0)) (bk BK170.out)) (g := gb171) (o := .cells #[.int .i64 a1_0, .int .i64 a1_1] 24 (0, 0)) (bk BK171.out)) (g := gb172) (o := .cells #[.int .i64 a2_0, .int .i64 a2_1] 24 (0, 0)) (bk BK172.out)) (g := gb175) (o := .cells #[.int .i64 t173, .int .i64 t174] 24 (0, 0)) (bk BK175.out)) (g := gb178) (o := .cells #[.int .i64 t176, .int .i64 t177] 24 (0, 0)) (bk BK178.out)) (g := gb209) (o := .cells #[.int .i64 t221, .int .i64 t222] 24 (0, 0)) (bk BK209.out)) (g := gb214) (o := .cells #[.int .i64 t227, .int .i64 t228] 24 (0, 0)) (bk BK214.out)) (below_size (by repeat first | (with_reducible exact HB.out) | refine bl1 ?_ | (with_reducible refine bset ?_ ‹_›) | exact HB.out)))
               replace BK170 := kb BK170 hb
               replace BK171 := kb BK171 hb
               replace BK172 := kb BK172 hb
               replace BK175 := kb BK175 hb
               replace BK178 := kb BK178 hb
               replace BK209 := kb BK209 hb
               replace BK214 := kb BK214 hb
               replace HB := hs' HB (by repeat first | (with_reducible exact HB.out) | refine bl1 ?_ | (with_reducible refine bset ?_ ‹_›) | exact HB.out) hb
               clear hb ho330
               obtain ⟨Ao331, co331, eo331⟩ := Kd.R_slice HO237.out
               (first | subst eo331 | (injection eo331 with f1_ f2_ f3_; have f4_ := f1_.symm; have f5_ := f3_.symm; clear f1_ f2_ f3_; subst f4_; subst f5_))
               refine hK.out _ _ ⟨(blk_cell BK170.out 0).trans rfl, (blk_cell BK170.out 1).trans rfl, (blk_cell BK171.out 0).trans rfl, (blk_cell BK171.out 1).trans rfl⟩ (fun hHeld => ?_)
               clear hK K
               refine norm_ (a' := ?_) ?_ ?_
               rotate_left
               ·
                show Act.put _ (some 99) _ = _
                simp only [ap]; rfl
               refine one_ (i := 4) (N := some 100) (bA 15 31) rfl rfl (one_of HT_.out (by kernel_rfl)) (by decide) (fun K hK => ?_)
               refine goes_ Try.func14 (by kernel_rfl) rfl #[.slice Ao331 y235.length co331] (by rfl) rfl rfl (by (try simp only [mp]); first | done | rfl | (simp only [ld]; rfl)) ?_
               with_reducible refine (serinettelaw01_numbers.calls kj258 _ _ y235 false _ ?side1 ?side2 A313.out).mono ?_
               (case side1 => repeat (first | exact (Kd.R_reads' HO237.out).2.2 | (with_reducible refine Kd.C_alloc ?_ _) | (with_reducible refine Kd.C_drewN ?_ _) | (with_reducible refine Kd.C_drew ?_)))
               (case side2 => exact (Kd.R_reads' HO237.out).2.1)
               rintro e w332 ⟨rfl, hb⟩
               refine ⟨_, rfl, ?_⟩
               replace HO237 := Aside0.mk (Kd.R_below (by (with_reducible repeat (first | apply Kd.R_alloc | apply Kd.R_drewN | apply Kd.R_drew)); exact HO237.out) hb)
               replace BK170 := kb BK170 hb
               replace BK171 := kb BK171 hb
               replace BK172 := kb BK172 hb
               replace BK175 := kb BK175 hb
               replace BK178 := kb BK178 hb
               replace BK209 := kb BK209 hb
               replace BK214 := kb BK214 hb
               replace HB := hs' HB (by repeat first | (with_reducible exact HB.out) | refine bl1 ?_ | (with_reducible refine bset ?_ ‹_›) | exact HB.out) hb
               (try clear hb); (try clear hb2); (try clear hk); (try clear hi)
               refine hK.out _ _ ⟨(blk_cell BK170.out 0).trans rfl, (blk_cell BK170.out 1).trans rfl, (blk_cell BK171.out 0).trans rfl, (blk_cell BK171.out 1).trans rfl⟩ (fun hHeld => ?_)
               clear hK K
               refine norm_ (a' := ?_) ?_ ?_
               rotate_left
               ·
                show Act.put _ (some 100) _ = _
                simp only [ap]; rfl
               refine pure_ (i := 5) (N := some 101) (v := ?_) (a' := ?_) (bA 15 63) rfl rfl (any_of HT_.out (by kernel_rfl)) (fun _ _ _ h => h) (Or.inl ⟨by rfl, ?_⟩) ?_ ?_
               rotate_left
               ·
                intro w'
                go_simp; with_reducible rfl
               rotate_left
               ·
                simp only [ap]
                rfl
               refine pure_ (i := 6) (N := some 102) (v := undef) (a' := ?_) (bA 15 127) rfl rfl (any_of HT_.out (by kernel_rfl)) (fun _ _ _ h => h) (Or.inr ⟨by rfl, rfl⟩) ?_ ?_
               rotate_left
               ·
                simp only [ap]
                rfl
               refine pure_ (i := 7) (N := some 103) (v := undef) (a' := ?_) (bA 15 255) rfl rfl (any_of HT_.out (by kernel_rfl)) (fun _ _ _ h => h) (Or.inr ⟨by rfl, rfl⟩) ?_ ?_
               rotate_left
               ·
                simp only [ap]
                rfl
               refine pure_ (i := 8) (N := some 104) (v := undef) (a' := ?_) (bA 15 511) rfl rfl (any_of HT_.out (by kernel_rfl)) (fun _ _ _ h => h) (Or.inr ⟨by rfl, rfl⟩) ?_ ?_
               rotate_left
               ·
                simp only [ap]
                rfl
               refine pure_ (i := 9) (N := some 105) (v := undef) (a' := ?_) (bA 15 1023) rfl rfl (any_of HT_.out (by kernel_rfl)) (fun _ _ _ h => h) (Or.inr ⟨by rfl, rfl⟩) ?_ ?_
               rotate_left
               ·
                simp only [ap]
                rfl
               refine pure_ (i := 10) (N := some 106) (v := undef) (a' := ?_) (bA 15 2047) rfl rfl (any_of HT_.out (by kernel_rfl)) (fun _ _ _ h => h) (Or.inr ⟨by rfl, rfl⟩) ?_ ?_
               rotate_left
               ·
                simp only [ap]
                rfl
               refine pure_ (i := 11) (N := some 107) (v := undef) (a' := ?_) (bA 15 4095) rfl rfl (any_of HT_.out (by kernel_rfl)) (fun _ _ _ h => h) (Or.inr ⟨by rfl, rfl⟩) ?_ ?_
               rotate_left
               ·
                simp only [ap]
                rfl
               refine pure_ (i := 12) (N := some 108) (v := undef) (a' := ?_) (bA 15 8191) rfl rfl (any_of HT_.out (by kernel_rfl)) (fun _ _ _ h => h) (Or.inr ⟨by rfl, rfl⟩) ?_ ?_
               rotate_left
               ·
                simp only [ap]
                rfl
               refine pure_ (i := 13) (N := some 109) (v := undef) (a' := ?_) (bA 15 16383) rfl rfl (any_of HT_.out (by kernel_rfl)) (fun _ _ _ h => h) (Or.inr ⟨by rfl, rfl⟩) ?_ ?_
               rotate_left
               ·
                simp only [ap]
                rfl
               refine pure_ (i := 14) (N := some 110) (v := ?_) (a' := ?_) (bA 15 32767) rfl rfl (any_of HT_.out (by kernel_rfl)) (fun _ _ _ h => h) (Or.inl ⟨by rfl, ?_⟩) ?_ ?_
               rotate_left
               ·
                intro w'
                go_simp; with_reducible rfl
               rotate_left
               ·
                simp only [ap]
                rfl
               refine done_ (done_of HT_.out (by kernel_rfl)) ?_
               try go_wp2
               go_meet
               case rel => exact ⟨_, (false), (by first | rfl | (simp; done) | (simp [*]; done)), H', ⟨by have := HJ5.out; have := HJ40.out; have := HJ188.out; have := HJ258.out; first | omega | exact Nat.le_refl _⟩, ⟨by refine bk ?_; exact BK170.out⟩, ⟨by refine bk ?_; exact BK171.out⟩, ⟨by refine bk ?_; exact BK172.out⟩, ⟨by refine bk ?_; exact BK175.out⟩, ⟨by refine bk ?_; exact BK178.out⟩, ⟨by refine bk ?_; exact BK209.out⟩, ⟨by refine bk ?_; exact BK214.out⟩, ⟨by repeat first | exact HB.out | refine bset ?_ ‹_› | apply below_alloc | apply pw_below_drewN | apply below_drew1⟩⟩
             case rest =>
              clear HC311
              (try clear c1); (try clear c2); (try clear p2); (try clear c3); (try clear c13); (try clear c14); (try clear c17); (try clear c18); (try clear c31); (try clear c314)
              obtain ⟨kq, x110_310, rfl, HA, HJ310, BK170, BK171, BK172, BK175, BK178, BK209, BK214, HB⟩ := hcut
              cases kq with
              | zero => exact absurd HA.out (by simp [serinettelaw01_NumberField.j4])
              | succ kj310 =>
               have H := HA.out
               clear HA
               simp only [serinettelaw01_NumberField.j4] at H
               by_cases c333 : x110_310 = true
               ·
                subst c333
                rw [if_pos rfl] at H
                exact absurd (H.trans (congrArg some hr.out)) (by simp)
               ·
                replace c333 := Bool.eq_false_iff.mpr c333
                subst c333
                rw [if_neg (show ¬ (false = true) by decide)] at H
                replace H := Option.bind_eq_some_iff.mp H
                obtain ⟨⟨t245, t246⟩, A3340, H⟩ := H
                (try dsimp only at H)
                have A334 := Aside0.mk A3340
                clear A3340
                replace H := Option.bind_eq_some_iff.mp H
                obtain ⟨⟨t247, t248⟩, A3350, H⟩ := H
                (try dsimp only at H)
                have A335 := Aside0.mk A3350
                clear A3350
                obtain ⟨y249, hy249⟩ : ∃ y_ : List (S24), y_ = (([(⟨a0_0, a0_1⟩ : S24), (⟨a1_0, a1_1⟩ : S24), (⟨t245, t246⟩ : S24), (⟨t247, t248⟩ : S24)] : List (S24))) := ⟨_, rfl⟩
                replace H : ((serinettelaw01_numbers.f kj310 y249).bind fun t252 => (if t252 = true then ((ratio_Cmp.f kj310 a0_0 a0_1 a1_0 a1_1).bind fun t253 => ((ratio_Add.f kj310 a0_0 a0_1 a2_0 a2_1).bind fun bt254 => ((ratio_Add.f kj310 a1_0 a1_1 a2_0 a2_1).bind fun bt256 => ((ratio_Cmp.f kj310 bt254.1 bt254.2 bt256.1 bt256.2).bind fun t258 => (if t253 = t258 then ((serinettelaw01_awake.f kj310).bind fun t259 => (some t259)) else (some false)))))) else ((serinettelaw01_awake.f kj310).bind fun t260 => (some t260)))) = some r := by first | (rw [hy249]; with_reducible exact H) | (have H2_ := (Option.bind_some _ _).symm.trans H; rw [hy249]; with_reducible exact H2_) | (have H2_ := (Option.bind_some _ _).symm.trans H; with_reducible exact H2_) | with_reducible exact H | (rw [hy249]; exact H) | exact H
                have Ny249 := Aside0.mk hy249
                clear hy249
                replace H := Option.bind_eq_some_iff.mp H
                obtain ⟨t252, A3360, H⟩ := H
                (try dsimp only at H)
                have A336 := Aside0.mk A3360
                clear A3360
                by_cases c337 : t252 = true
                ·
                 subst c337
                 rw [if_pos rfl] at H
                 replace H := Option.bind_eq_some_iff.mp H
                 obtain ⟨t253, A3380, H⟩ := H
                 (try dsimp only at H)
                 have A338 := Aside0.mk A3380
                 clear A3380
                 replace H := Option.bind_eq_some_iff.mp H
                 obtain ⟨⟨t254, t255⟩, A3390, H⟩ := H
                 (try dsimp only at H)
                 have A339 := Aside0.mk A3390
                 clear A3390
                 replace H := Option.bind_eq_some_iff.mp H
                 obtain ⟨⟨t256, t257⟩, A3400, H⟩ := H
                 (try dsimp only at H)
                 have A340 := Aside0.mk A3400
                 clear A3400
                 replace H := Option.bind_eq_some_iff.mp H
                 obtain ⟨t258, A3410, H⟩ := H
                 (try dsimp only at H)
                 have A341 := Aside0.mk A3410
                 clear A3410
                 by_cases c342 : t253 = t258
                 ·
                  rw [if_pos c342] at H
                  have c342b0 : (t253 == t258) = true := beq_iff_eq.mpr c342
                  have c342b1 : (t253 != t258) = false := bne_eq_false_iff_eq.mpr c342
                  clear c342
                  replace H := Option.bind_eq_some_iff.mp H
                  obtain ⟨t259, A3430, H⟩ := H
                  (try dsimp only at H)
                  have A343 := Aside0.mk A3430
                  clear A3430
                  obtain rfl := Option.some.inj H
                  try go_wp2
                  replace BK170 := kd BK170
                  replace BK171 := kd BK171
                  replace BK172 := kd BK172
                  replace BK175 := kd BK175
                  replace BK178 := kd BK178
                  replace BK209 := kd BK209
                  replace BK214 := kd BK214
                  replace HB := Aside0.mk (below_drew1 HB.out)
                  refine start_ (n := 23) (S := fun w' => w'.cell? ⟨gb170, 0, none⟩ = some (.int .i64 a0_0) ∧ w'.cell? ⟨gb170, 1, none⟩ = some (.int .i64 a0_1) ∧ w'.cell? ⟨gb171, 0, none⟩ = some (.int .i64 a1_0) ∧ w'.cell? ⟨gb171, 1, none⟩ = some (.int .i64 a1_1) ∧ w'.cell? ⟨gb172, 0, none⟩ = some (.int .i64 a2_0) ∧ w'.cell? ⟨gb172, 1, none⟩ = some (.int .i64 a2_1)) (ds := []) (bA 23 0) (by kernel_rfl) rfl rfl ⟨(blk_cell BK170.out 0).trans rfl, (blk_cell BK170.out 1).trans rfl, (blk_cell BK171.out 0).trans rfl, (blk_cell BK171.out 1).trans rfl, (blk_cell BK172.out 0).trans rfl, (blk_cell BK172.out 1).trans rfl⟩ (fun hHeld => ?_); refine with_tabW serinettelaw01_NumberField.tab17 serinettelaw01_NumberField.bits17 (fun HT_ HW_ => ?_)
                  generalize wc.drew = w344 at BK170 BK171 BK172 BK175 BK178 BK209 BK214 HB hHeld ⊢
                  refine take_ (i := 0) (N := some 111) (v := ?_) (a' := ?_) (bA 23 1) rfl rfl (take_ofW HT_.out HW_.out (by kernel_rfl)) (fun _ _ _ h => h) (Or.inl ⟨by rfl, ?_⟩) hHeld ?_ ?_
                  rotate_left
                  ·
                   rintro w' ⟨s0, s1, s2, s3, s4, s5⟩
                   go_simp; with_reducible rfl
                  rotate_left
                  ·
                   simp only [ap]
                   rfl
                  refine take_ (i := 1) (N := some 112) (v := ?_) (a' := ?_) (bA 23 3) rfl rfl (take_ofW HT_.out HW_.out (by kernel_rfl)) (fun _ _ _ h => h) (Or.inl ⟨by rfl, ?_⟩) hHeld ?_ ?_
                  rotate_left
                  ·
                   rintro w' ⟨s0, s1, s2, s3, s4, s5⟩
                   go_simp; with_reducible rfl
                  rotate_left
                  ·
                   simp only [ap]
                   rfl
                  refine take_ (i := 2) (N := some 113) (v := ?_) (a' := ?_) (bA 23 7) rfl rfl (take_ofW HT_.out HW_.out (by kernel_rfl)) (fun _ _ _ h => h) (Or.inl ⟨by rfl, ?_⟩) hHeld ?_ ?_
                  rotate_left
                  ·
                   rintro w' ⟨s0, s1, s2, s3, s4, s5⟩
                   go_simp; with_reducible rfl
                  rotate_left
                  ·
                   simp only [ap]
                   rfl
                  refine take_ (i := 3) (N := some 114) (v := ?_) (a' := ?_) (bA 23 15) rfl rfl (take_ofW HT_.out HW_.out (by kernel_rfl)) (fun _ _ _ h => h) (Or.inl ⟨by rfl, ?_⟩) hHeld ?_ ?_
                  rotate_left
                  ·
                   rintro w' ⟨s0, s1, s2, s3, s4, s5⟩
                   go_simp; with_reducible rfl
                  rotate_left
                  ·
                   simp only [ap]
                   rfl
                  refine take_ (i := 5) (N := some 116) (v := ?_) (a' := ?_) (bA 23 47) rfl rfl (take_ofW HT_.out HW_.out (by kernel_rfl)) (fun _ _ _ h => h) (Or.inl ⟨by rfl, ?_⟩) hHeld ?_ ?_
                  rotate_left
                  ·
                   rintro w' ⟨s0, s1, s2, s3, s4, s5⟩
                   go_simp; with_reducible rfl
                  rotate_left
                  ·
                   simp only [ap]
                   rfl
                  refine take_ (i := 6) (N := some 117) (v := ?_) (a' := ?_) (bA 23 111) rfl rfl (take_ofW HT_.out HW_.out (by kernel_rfl)) (fun _ _ _ h => h) (Or.inl ⟨by rfl, ?_⟩) hHeld ?_ ?_
                  rotate_left
                  ·
                   rintro w' ⟨s0, s1, s2, s3, s4, s5⟩
                   go_simp; with_reducible rfl
                  rotate_left
                  ·
                   simp only [ap]
                   rfl
                  refine one_ (i := 4) (N := some 115) (bA 23 127) rfl rfl (one_of HT_.out (by kernel_rfl)) (by decide) (fun K hK => ?_)
                  refine goes_ Try.func12 (by kernel_rfl) rfl #[.agg #[.int .i64 a0_0, .int .i64 a0_1], .agg #[.int .i64 a2_0, .int .i64 a2_1]] (by rfl) rfl rfl (by (try simp only [mp]); first | done | rfl | (simp only [ld]; rfl)) ?_
                  with_reducible refine (ratio_Add.calls kj310 a0_0 a0_1 a2_0 a2_1 t245 t246 _ A334.out).mono ?_
                  rintro e w345 ⟨rfl, hb⟩
                  refine ⟨_, rfl, ?_⟩
                  replace BK170 := kb BK170 hb
                  replace BK171 := kb BK171 hb
                  replace BK172 := kb BK172 hb
                  replace BK175 := kb BK175 hb
                  replace BK178 := kb BK178 hb
                  replace BK209 := kb BK209 hb
                  replace BK214 := kb BK214 hb
                  replace HB := hs' HB (by repeat first | (with_reducible exact HB.out) | refine bl1 ?_ | (with_reducible refine bset ?_ ‹_›) | exact HB.out) hb
                  (try clear hb); (try clear hb2); (try clear hk); (try clear hi)
                  refine hK.out _ _ ⟨(blk_cell BK170.out 0).trans rfl, (blk_cell BK170.out 1).trans rfl, (blk_cell BK171.out 0).trans rfl, (blk_cell BK171.out 1).trans rfl, (blk_cell BK172.out 0).trans rfl, (blk_cell BK172.out 1).trans rfl⟩ (fun hHeld => ?_)
                  clear hK K
                  refine norm_ (a' := ?_) ?_ ?_
                  rotate_left
                  ·
                   show Act.put _ (some 115) _ = _
                   simp only [ap]; rfl
                  refine one_ (i := 7) (N := some 118) (bA 23 255) rfl rfl (one_of HT_.out (by kernel_rfl)) (by decide) (fun K hK => ?_)
                  refine goes_ Try.func12 (by kernel_rfl) rfl #[.agg #[.int .i64 a1_0, .int .i64 a1_1], .agg #[.int .i64 a2_0, .int .i64 a2_1]] (by rfl) rfl rfl (by (try simp only [mp]); first | done | rfl | (simp only [ld]; rfl)) ?_
                  with_reducible refine (ratio_Add.calls kj310 a1_0 a1_1 a2_0 a2_1 t247 t248 _ A335.out).mono ?_
                  rintro e w346 ⟨rfl, hb⟩
                  refine ⟨_, rfl, ?_⟩
                  replace BK170 := kb BK170 hb
                  replace BK171 := kb BK171 hb
                  replace BK172 := kb BK172 hb
                  replace BK175 := kb BK175 hb
                  replace BK178 := kb BK178 hb
                  replace BK209 := kb BK209 hb
                  replace BK214 := kb BK214 hb
                  replace HB := hs' HB (by repeat first | (with_reducible exact HB.out) | refine bl1 ?_ | (with_reducible refine bset ?_ ‹_›) | exact HB.out) hb
                  (try clear hb); (try clear hb2); (try clear hk); (try clear hi)
                  refine hK.out _ _ ⟨(blk_cell BK170.out 0).trans rfl, (blk_cell BK170.out 1).trans rfl, (blk_cell BK171.out 0).trans rfl, (blk_cell BK171.out 1).trans rfl, (blk_cell BK172.out 0).trans rfl, (blk_cell BK172.out 1).trans rfl⟩ (fun hHeld => ?_)
                  clear hK K
                  refine norm_ (a' := ?_) ?_ ?_
                  rotate_left
                  ·
                   show Act.put _ (some 118) _ = _
                   simp only [ap]; rfl
                  refine one_ (i := 8) (N := some 119) (bA 23 511) rfl rfl (one_of HT_.out (by kernel_rfl)) (by decide) (fun K hK => ?_)
                  refine Kd.R_lit_step k24 _ 24 ?hg (N := 119) ?hd (xs := ([(⟨a0_0, a0_1⟩ : S24), (⟨a1_0, a1_1⟩ : S24), (⟨t245, t246⟩ : S24), (⟨t247, t248⟩ : S24)] : List (S24))) (inner := [.int .i64 a0_0, .int .i64 a0_1, .int .i64 a1_0, .int .i64 a1_1, .int .i64 t245, .int .i64 t246, .int .i64 t247, .int .i64 t248]) (ok := fun _ => True) (okp := fun _ => True) ?hr ?hp (fun _ hk => hk) trivial (Below.refl _ _) (Nat.le_refl _) (by simp) ?_; (case hd => rfl); (case hg => rfl); (case hr => first | (go_simp; done) | (go_simp; rfl)); (case hp => exact (Reps.c2 (show Kd.M k24 _ _ _ (⟨a0_0, a0_1⟩ : S24) [.int .i64 a0_0, .int .i64 a0_1] from (k24_mkM _ _ _ (⟨a0_0, a0_1⟩ : S24) )) (Reps.c2 (show Kd.M k24 _ _ _ (⟨a1_0, a1_1⟩ : S24) [.int .i64 a1_0, .int .i64 a1_1] from (k24_mkM _ _ _ (⟨a1_0, a1_1⟩ : S24) )) (Reps.c2 (show Kd.M k24 _ _ _ (⟨t245, t246⟩ : S24) [.int .i64 t245, .int .i64 t246] from (k24_mkM _ _ _ (⟨t245, t246⟩ : S24) )) (Reps.c2 (show Kd.M k24 _ _ _ (⟨t247, t248⟩ : S24) [.int .i64 t247, .int .i64 t248] from (k24_mkM _ _ _ (⟨t247, t248⟩ : S24) )) (Reps.none _ _))))))
                  intro v250 w347 ho348 hb hg_ hnew_
                  clear hg_ hnew_
                  (first | rw [← Ny249.out] at ho348 | (simp only [Int.reduceToNat] at ho348; rw [← Ny249.out] at ho348))
                  have HO251 := Aside0.mk (Kd.R_lower (Kd.R_newB (Kd.R_newB (Kd.R_newB (Kd.R_newB (Kd.R_newB (Kd.R_newB (Kd.R_newB ho348 (g := gb170) (o := .cells #[.int .i64 a0_0, .int .i64 a0_1] 24 (0, 0)) (bk BK170.out)) (g := gb171) (o := .cells #[.int .i64 a1_0, .int .i64 a1_1] 24 (0, 0)) (bk BK171.out)) (g := gb172) (o := .cells #[.int .i64 a2_0, .int .i64 a2_1] 24 (0, 0)) (bk BK172.out)) (g := gb175) (o := .cells #[.int .i64 t173, .int .i64 t174] 24 (0, 0)) (bk BK175.out)) (g := gb178) (o := .cells #[.int .i64 t176, .int .i64 t177] 24 (0, 0)) (bk BK178.out)) (g := gb209) (o := .cells #[.int .i64 t221, .int .i64 t222] 24 (0, 0)) (bk BK209.out)) (g := gb214) (o := .cells #[.int .i64 t227, .int .i64 t228] 24 (0, 0)) (bk BK214.out)) (below_size (by repeat first | (with_reducible exact HB.out) | refine bl1 ?_ | (with_reducible refine bset ?_ ‹_›) | exact HB.out)))
                  replace BK170 := kb BK170 hb
                  replace BK171 := kb BK171 hb
                  replace BK172 := kb BK172 hb
                  replace BK175 := kb BK175 hb
                  replace BK178 := kb BK178 hb
                  replace BK209 := kb BK209 hb
                  replace BK214 := kb BK214 hb
                  replace HB := hs' HB (by repeat first | (with_reducible exact HB.out) | refine bl1 ?_ | (with_reducible refine bset ?_ ‹_›) | exact HB.out) hb
                  clear hb ho348
                  obtain ⟨Ao349, co349, eo349⟩ := Kd.R_slice HO251.out
                  (first | subst eo349 | (injection eo349 with f1_ f2_ f3_; have f4_ := f1_.symm; have f5_ := f3_.symm; clear f1_ f2_ f3_; subst f4_; subst f5_))
                  refine hK.out _ _ ⟨(blk_cell BK170.out 0).trans rfl, (blk_cell BK170.out 1).trans rfl, (blk_cell BK171.out 0).trans rfl, (blk_cell BK171.out 1).trans rfl, (blk_cell BK172.out 0).trans rfl, (blk_cell BK172.out 1).trans rfl⟩ (fun hHeld => ?_)
                  clear hK K
                  refine norm_ (a' := ?_) ?_ ?_
                  rotate_left
                  ·
                   show Act.put _ (some 119) _ = _
                   simp only [ap]; rfl
                  refine one_ (i := 9) (N := some 120) (bA 23 1023) rfl rfl (one_of HT_.out (by kernel_rfl)) (by decide) (fun K hK => ?_)
                  refine goes_ Try.func14 (by kernel_rfl) rfl #[.slice Ao349 y249.length co349] (by rfl) rfl rfl (by (try simp only [mp]); first | done | rfl | (simp only [ld]; rfl)) ?_
                  with_reducible refine (serinettelaw01_numbers.calls kj310 _ _ y249 true _ ?side1 ?side2 A336.out).mono ?_
                  (case side1 => repeat (first | exact (Kd.R_reads' HO251.out).2.2 | (with_reducible refine Kd.C_alloc ?_ _) | (with_reducible refine Kd.C_drewN ?_ _) | (with_reducible refine Kd.C_drew ?_)))
                  (case side2 => exact (Kd.R_reads' HO251.out).2.1)
                  rintro e w350 ⟨rfl, hb⟩
                  refine ⟨_, rfl, ?_⟩
                  replace HO251 := Aside0.mk (Kd.R_below (by (with_reducible repeat (first | apply Kd.R_alloc | apply Kd.R_drewN | apply Kd.R_drew)); exact HO251.out) hb)
                  replace BK170 := kb BK170 hb
                  replace BK171 := kb BK171 hb
                  replace BK172 := kb BK172 hb
                  replace BK175 := kb BK175 hb
                  replace BK178 := kb BK178 hb
                  replace BK209 := kb BK209 hb
                  replace BK214 := kb BK214 hb
                  replace HB := hs' HB (by repeat first | (with_reducible exact HB.out) | refine bl1 ?_ | (with_reducible refine bset ?_ ‹_›) | exact HB.out) hb
                  (try clear hb); (try clear hb2); (try clear hk); (try clear hi)
                  refine hK.out _ _ ⟨(blk_cell BK170.out 0).trans rfl, (blk_cell BK170.out 1).trans rfl, (blk_cell BK171.out 0).trans rfl, (blk_cell BK171.out 1).trans rfl, (blk_cell BK172.out 0).trans rfl, (blk_cell BK172.out 1).trans rfl⟩ (fun hHeld => ?_)
                  clear hK K
                  refine norm_ (a' := ?_) ?_ ?_
                  rotate_left
                  ·
                   show Act.put _ (some 120) _ = _
                   simp only [ap]; rfl
                  refine pure_ (i := 10) (N := some 121) (v := ?_) (a' := ?_) (bA 23 2047) rfl rfl (any_of HT_.out (by kernel_rfl)) (fun _ _ _ h => h) (Or.inl ⟨by rfl, ?_⟩) ?_ ?_
                  rotate_left
                  ·
                   intro w'
                   go_simp; with_reducible rfl
                  rotate_left
                  ·
                   simp only [ap]
                   rfl
                  refine take_ (i := 11) (N := some 122) (v := ?_) (a' := ?_) (bA 23 4095) rfl rfl (take_ofW HT_.out HW_.out (by kernel_rfl)) (fun _ _ _ h => h) (Or.inl ⟨by rfl, ?_⟩) hHeld ?_ ?_
                  rotate_left
                  ·
                   rintro w' ⟨s0, s1, s2, s3, s4, s5⟩
                   go_simp; with_reducible rfl
                  rotate_left
                  ·
                   simp only [ap]
                   rfl
                  refine take_ (i := 12) (N := some 123) (v := ?_) (a' := ?_) (bA 23 8191) rfl rfl (take_ofW HT_.out HW_.out (by kernel_rfl)) (fun _ _ _ h => h) (Or.inl ⟨by rfl, ?_⟩) hHeld ?_ ?_
                  rotate_left
                  ·
                   rintro w' ⟨s0, s1, s2, s3, s4, s5⟩
                   go_simp; with_reducible rfl
                  rotate_left
                  ·
                   simp only [ap]
                   rfl
                  refine take_ (i := 14) (N := some 125) (v := ?_) (a' := ?_) (bA 23 24575) rfl rfl (take_ofW HT_.out HW_.out (by kernel_rfl)) (fun _ _ _ h => h) (Or.inl ⟨by rfl, ?_⟩) hHeld ?_ ?_
                  rotate_left
                  ·
                   rintro w' ⟨s0, s1, s2, s3, s4, s5⟩
                   go_simp; with_reducible rfl
                  rotate_left
                  ·
                   simp only [ap]
                   rfl
                  refine take_ (i := 15) (N := some 126) (v := ?_) (a' := ?_) (bA 23 57343) rfl rfl (take_ofW HT_.out HW_.out (by kernel_rfl)) (fun _ _ _ h => h) (Or.inl ⟨by rfl, ?_⟩) hHeld ?_ ?_
                  rotate_left
                  ·
                   rintro w' ⟨s0, s1, s2, s3, s4, s5⟩
                   go_simp; with_reducible rfl
                  rotate_left
                  ·
                   simp only [ap]
                   rfl
                  refine take_ (i := 17) (N := some 128) (v := ?_) (a' := ?_) (bA 23 188415) rfl rfl (take_ofW HT_.out HW_.out (by kernel_rfl)) (fun _ _ _ h => h) (Or.inl ⟨by rfl, ?_⟩) hHeld ?_ ?_
                  rotate_left
                  ·
                   rintro w' ⟨s0, s1, s2, s3, s4, s5⟩
                   go_simp; with_reducible rfl
                  rotate_left
                  ·
                   simp only [ap]
                   rfl
                  refine take_ (i := 18) (N := some 129) (v := ?_) (a' := ?_) (bA 23 450559) rfl rfl (take_ofW HT_.out HW_.out (by kernel_rfl)) (fun _ _ _ h => h) (Or.inl ⟨by rfl, ?_⟩) hHeld ?_ ?_
                  rotate_left
                  ·
                   rintro w' ⟨s0, s1, s2, s3, s4, s5⟩
                   go_simp; with_reducible rfl
                  rotate_left
                  ·
                   simp only [ap]
                   rfl
                  refine one_ (i := 13) (N := some 124) (bA 23 458751) rfl rfl (one_of HT_.out (by kernel_rfl)) (by decide) (fun K hK => ?_)
                  refine goes_ Try.func19 (by kernel_rfl) rfl #[.agg #[.int .i64 a0_0, .int .i64 a0_1], .agg #[.int .i64 a1_0, .int .i64 a1_1]] (by rfl) rfl rfl (by (try simp only [mp]); first | done | rfl | (simp only [ld]; rfl)) ?_
                  with_reducible refine (ratio_Cmp.calls kj310 a0_0 a0_1 a1_0 a1_1 t253 _ A338.out).mono ?_
                  rintro e w351 ⟨rfl, hb⟩
                  refine ⟨_, rfl, ?_⟩
                  replace HO251 := Aside0.mk (Kd.R_below (by (with_reducible repeat (first | apply Kd.R_alloc | apply Kd.R_drewN | apply Kd.R_drew)); exact HO251.out) hb)
                  replace BK170 := kb BK170 hb
                  replace BK171 := kb BK171 hb
                  replace BK172 := kb BK172 hb
                  replace BK175 := kb BK175 hb
                  replace BK178 := kb BK178 hb
                  replace BK209 := kb BK209 hb
                  replace BK214 := kb BK214 hb
                  replace HB := hs' HB (by repeat first | (with_reducible exact HB.out) | refine bl1 ?_ | (with_reducible refine bset ?_ ‹_›) | exact HB.out) hb
                  (try clear hb); (try clear hb2); (try clear hk); (try clear hi)
                  refine hK.out _ _ ⟨(blk_cell BK170.out 0).trans rfl, (blk_cell BK170.out 1).trans rfl, (blk_cell BK171.out 0).trans rfl, (blk_cell BK171.out 1).trans rfl, (blk_cell BK172.out 0).trans rfl, (blk_cell BK172.out 1).trans rfl⟩ (fun hHeld => ?_)
                  clear hK K
                  refine norm_ (a' := ?_) ?_ ?_
                  rotate_left
                  ·
                   show Act.put _ (some 124) _ = _
                   simp only [ap]; rfl
                  refine one_ (i := 16) (N := some 127) (bA 23 524287) rfl rfl (one_of HT_.out (by kernel_rfl)) (by decide) (fun K hK => ?_)
                  refine goes_ Try.func12 (by kernel_rfl) rfl #[.agg #[.int .i64 a0_0, .int .i64 a0_1], .agg #[.int .i64 a2_0, .int .i64 a2_1]] (by rfl) rfl rfl (by (try simp only [mp]); first | done | rfl | (simp only [ld]; rfl)) ?_
                  with_reducible refine (ratio_Add.calls kj310 a0_0 a0_1 a2_0 a2_1 t254 t255 _ A339.out).mono ?_
                  rintro e w352 ⟨rfl, hb⟩
                  refine ⟨_, rfl, ?_⟩
                  replace HO251 := Aside0.mk (Kd.R_below (by (with_reducible repeat (first | apply Kd.R_alloc | apply Kd.R_drewN | apply Kd.R_drew)); exact HO251.out) hb)
                  replace BK170 := kb BK170 hb
                  replace BK171 := kb BK171 hb
                  replace BK172 := kb BK172 hb
                  replace BK175 := kb BK175 hb
                  replace BK178 := kb BK178 hb
                  replace BK209 := kb BK209 hb
                  replace BK214 := kb BK214 hb
                  replace HB := hs' HB (by repeat first | (with_reducible exact HB.out) | refine bl1 ?_ | (with_reducible refine bset ?_ ‹_›) | exact HB.out) hb
                  (try clear hb); (try clear hb2); (try clear hk); (try clear hi)
                  refine hK.out _ _ ⟨(blk_cell BK170.out 0).trans rfl, (blk_cell BK170.out 1).trans rfl, (blk_cell BK171.out 0).trans rfl, (blk_cell BK171.out 1).trans rfl, (blk_cell BK172.out 0).trans rfl, (blk_cell BK172.out 1).trans rfl⟩ (fun hHeld => ?_)
                  clear hK K
                  refine norm_ (a' := ?_) ?_ ?_
                  rotate_left
                  ·
                   show Act.put _ (some 127) _ = _
                   simp only [ap]; rfl
                  refine one_ (i := 19) (N := some 130) (bA 23 1048575) rfl rfl (one_of HT_.out (by kernel_rfl)) (by decide) (fun K hK => ?_)
                  refine goes_ Try.func12 (by kernel_rfl) rfl #[.agg #[.int .i64 a1_0, .int .i64 a1_1], .agg #[.int .i64 a2_0, .int .i64 a2_1]] (by rfl) rfl rfl (by (try simp only [mp]); first | done | rfl | (simp only [ld]; rfl)) ?_
                  with_reducible refine (ratio_Add.calls kj310 a1_0 a1_1 a2_0 a2_1 t256 t257 _ A340.out).mono ?_
                  rintro e w353 ⟨rfl, hb⟩
                  refine ⟨_, rfl, ?_⟩
                  replace HO251 := Aside0.mk (Kd.R_below (by (with_reducible repeat (first | apply Kd.R_alloc | apply Kd.R_drewN | apply Kd.R_drew)); exact HO251.out) hb)
                  replace BK170 := kb BK170 hb
                  replace BK171 := kb BK171 hb
                  replace BK172 := kb BK172 hb
                  replace BK175 := kb BK175 hb
                  replace BK178 := kb BK178 hb
                  replace BK209 := kb BK209 hb
                  replace BK214 := kb BK214 hb
                  replace HB := hs' HB (by repeat first | (with_reducible exact HB.out) | refine bl1 ?_ | (with_reducible refine bset ?_ ‹_›) | exact HB.out) hb
                  (try clear hb); (try clear hb2); (try clear hk); (try clear hi)
                  refine hK.out _ _ ⟨(blk_cell BK170.out 0).trans rfl, (blk_cell BK170.out 1).trans rfl, (blk_cell BK171.out 0).trans rfl, (blk_cell BK171.out 1).trans rfl, (blk_cell BK172.out 0).trans rfl, (blk_cell BK172.out 1).trans rfl⟩ (fun hHeld => ?_)
                  clear hK K
                  refine norm_ (a' := ?_) ?_ ?_
                  rotate_left
                  ·
                   show Act.put _ (some 130) _ = _
                   simp only [ap]; rfl
                  refine one_ (i := 20) (N := some 131) (bA 23 2097151) rfl rfl (one_of HT_.out (by kernel_rfl)) (by decide) (fun K hK => ?_)
                  refine goes_ Try.func19 (by kernel_rfl) rfl #[.agg #[.int .i64 t254, .int .i64 t255], .agg #[.int .i64 t256, .int .i64 t257]] (by rfl) rfl rfl (by (try simp only [mp]); first | done | rfl | (simp only [ld]; rfl)) ?_
                  with_reducible refine (ratio_Cmp.calls kj310 t254 t255 t256 t257 t258 _ A341.out).mono ?_
                  rintro e w354 ⟨rfl, hb⟩
                  refine ⟨_, rfl, ?_⟩
                  replace HO251 := Aside0.mk (Kd.R_below (by (with_reducible repeat (first | apply Kd.R_alloc | apply Kd.R_drewN | apply Kd.R_drew)); exact HO251.out) hb)
                  replace BK170 := kb BK170 hb
                  replace BK171 := kb BK171 hb
                  replace BK172 := kb BK172 hb
                  replace BK175 := kb BK175 hb
                  replace BK178 := kb BK178 hb
                  replace BK209 := kb BK209 hb
                  replace BK214 := kb BK214 hb
                  replace HB := hs' HB (by repeat first | (with_reducible exact HB.out) | refine bl1 ?_ | (with_reducible refine bset ?_ ‹_›) | exact HB.out) hb
                  (try clear hb); (try clear hb2); (try clear hk); (try clear hi)
                  refine hK.out _ _ ⟨(blk_cell BK170.out 0).trans rfl, (blk_cell BK170.out 1).trans rfl, (blk_cell BK171.out 0).trans rfl, (blk_cell BK171.out 1).trans rfl, (blk_cell BK172.out 0).trans rfl, (blk_cell BK172.out 1).trans rfl⟩ (fun hHeld => ?_)
                  clear hK K
                  refine norm_ (a' := ?_) ?_ ?_
                  rotate_left
                  ·
                   show Act.put _ (some 131) _ = _
                   simp only [ap]; rfl
                  refine pure_ (i := 21) (N := some 132) (v := ?_) (a' := ?_) (bA 23 4194303) rfl rfl (any_of HT_.out (by kernel_rfl)) (fun _ _ _ h => h) (Or.inl ⟨by rfl, ?_⟩) ?_ ?_
                  rotate_left
                  ·
                   intro w'
                   go_simp; with_reducible rfl
                  rotate_left
                  ·
                   simp only [ap]
                   rfl
                  refine pure_ (i := 22) (N := some 133) (v := ?_) (a' := ?_) (bA 23 8388607) rfl rfl (any_of HT_.out (by kernel_rfl)) (fun _ _ _ h => h) (Or.inl ⟨by rfl, ?_⟩) ?_ ?_
                  rotate_left
                  ·
                   intro w'
                   go_simp; with_reducible rfl
                  rotate_left
                  ·
                   simp only [ap]
                   rfl
                  refine done_ (done_of HT_.out (by kernel_rfl)) ?_
                  try go_wp2_with (first | ((with_reducible refine gate_callee (f := 11) rfl ?_); refine goesL_ (some 134) rfl rfl Try.func11 (by kernel_rfl) rfl #[] rfl (by (try simp only [mp]); first | done | rfl | (simp only [ld]; rfl)) ?_; (with_reducible refine (serinettelaw01_awake.calls kj310  t259 _ A343.out).mono ?_); rintro e w355 ⟨rfl, hb⟩; refine ⟨_, rfl, ?_⟩; replace HO251 := Aside0.mk (Kd.R_below (by (with_reducible repeat (first | apply Kd.R_alloc | apply Kd.R_drewN | apply Kd.R_drew)); exact HO251.out) hb); replace BK170 := kb BK170 hb; replace BK171 := kb BK171 hb; replace BK172 := kb BK172 hb; replace BK175 := kb BK175 hb; replace BK178 := kb BK178 hb; replace BK209 := kb BK209 hb; replace BK214 := kb BK214 hb; replace HB := hs' HB (by repeat first | (with_reducible exact HB.out) | refine bl1 ?_ | (with_reducible refine bset ?_ ‹_›) | exact HB.out) hb; (try clear hb); (try clear hb2); (try clear hk); (try clear hi)))
                  go_ret
                  exact ⟨by first | rfl | (simp [errW_none, errW_some] <;> rfl) | (simp [*, errW_none, errW_some] <;> rfl), by repeat first | exact HB.out | refine bset ?_ ‹_› | apply below_alloc | apply pw_below_drewN | apply below_drew1⟩
                 ·
                  rw [if_neg c342] at H
                  have c342b0 : (t253 == t258) = false := beq_eq_false_iff_ne.mpr c342
                  have c342b1 : (t253 != t258) = true := bne_iff_ne.mpr c342
                  obtain rfl := Option.some.inj H
                  try go_wp2
                  replace BK170 := kd BK170
                  replace BK171 := kd BK171
                  replace BK172 := kd BK172
                  replace BK175 := kd BK175
                  replace BK178 := kd BK178
                  replace BK209 := kd BK209
                  replace BK214 := kd BK214
                  replace HB := Aside0.mk (below_drew1 HB.out)
                  refine start_ (n := 23) (S := fun w' => w'.cell? ⟨gb170, 0, none⟩ = some (.int .i64 a0_0) ∧ w'.cell? ⟨gb170, 1, none⟩ = some (.int .i64 a0_1) ∧ w'.cell? ⟨gb171, 0, none⟩ = some (.int .i64 a1_0) ∧ w'.cell? ⟨gb171, 1, none⟩ = some (.int .i64 a1_1) ∧ w'.cell? ⟨gb172, 0, none⟩ = some (.int .i64 a2_0) ∧ w'.cell? ⟨gb172, 1, none⟩ = some (.int .i64 a2_1)) (ds := []) (bA 23 0) (by kernel_rfl) rfl rfl ⟨(blk_cell BK170.out 0).trans rfl, (blk_cell BK170.out 1).trans rfl, (blk_cell BK171.out 0).trans rfl, (blk_cell BK171.out 1).trans rfl, (blk_cell BK172.out 0).trans rfl, (blk_cell BK172.out 1).trans rfl⟩ (fun hHeld => ?_); refine with_tabW serinettelaw01_NumberField.tab17 serinettelaw01_NumberField.bits17 (fun HT_ HW_ => ?_)
                  generalize wc.drew = w356 at BK170 BK171 BK172 BK175 BK178 BK209 BK214 HB hHeld ⊢
                  refine take_ (i := 0) (N := some 111) (v := ?_) (a' := ?_) (bA 23 1) rfl rfl (take_ofW HT_.out HW_.out (by kernel_rfl)) (fun _ _ _ h => h) (Or.inl ⟨by rfl, ?_⟩) hHeld ?_ ?_
                  rotate_left
                  ·
                   rintro w' ⟨s0, s1, s2, s3, s4, s5⟩
                   go_simp; with_reducible rfl
                  rotate_left
                  ·
                   simp only [ap]
                   rfl
                  refine take_ (i := 1) (N := some 112) (v := ?_) (a' := ?_) (bA 23 3) rfl rfl (take_ofW HT_.out HW_.out (by kernel_rfl)) (fun _ _ _ h => h) (Or.inl ⟨by rfl, ?_⟩) hHeld ?_ ?_
                  rotate_left
                  ·
                   rintro w' ⟨s0, s1, s2, s3, s4, s5⟩
                   go_simp; with_reducible rfl
                  rotate_left
                  ·
                   simp only [ap]
                   rfl
                  refine take_ (i := 2) (N := some 113) (v := ?_) (a' := ?_) (bA 23 7) rfl rfl (take_ofW HT_.out HW_.out (by kernel_rfl)) (fun _ _ _ h => h) (Or.inl ⟨by rfl, ?_⟩) hHeld ?_ ?_
                  rotate_left
                  ·
                   rintro w' ⟨s0, s1, s2, s3, s4, s5⟩
                   go_simp; with_reducible rfl
                  rotate_left
                  ·
                   simp only [ap]
                   rfl
                  refine take_ (i := 3) (N := some 114) (v := ?_) (a' := ?_) (bA 23 15) rfl rfl (take_ofW HT_.out HW_.out (by kernel_rfl)) (fun _ _ _ h => h) (Or.inl ⟨by rfl, ?_⟩) hHeld ?_ ?_
                  rotate_left
                  ·
                   rintro w' ⟨s0, s1, s2, s3, s4, s5⟩
                   go_simp; with_reducible rfl
                  rotate_left
                  ·
                   simp only [ap]
                   rfl
                  refine take_ (i := 5) (N := some 116) (v := ?_) (a' := ?_) (bA 23 47) rfl rfl (take_ofW HT_.out HW_.out (by kernel_rfl)) (fun _ _ _ h => h) (Or.inl ⟨by rfl, ?_⟩) hHeld ?_ ?_
                  rotate_left
                  ·
                   rintro w' ⟨s0, s1, s2, s3, s4, s5⟩
                   go_simp; with_reducible rfl
                  rotate_left
                  ·
                   simp only [ap]
                   rfl
                  refine take_ (i := 6) (N := some 117) (v := ?_) (a' := ?_) (bA 23 111) rfl rfl (take_ofW HT_.out HW_.out (by kernel_rfl)) (fun _ _ _ h => h) (Or.inl ⟨by rfl, ?_⟩) hHeld ?_ ?_
                  rotate_left
                  ·
                   rintro w' ⟨s0, s1, s2, s3, s4, s5⟩
                   go_simp; with_reducible rfl
                  rotate_left
                  ·
                   simp only [ap]
                   rfl
                  refine one_ (i := 4) (N := some 115) (bA 23 127) rfl rfl (one_of HT_.out (by kernel_rfl)) (by decide) (fun K hK => ?_)
                  refine goes_ Try.func12 (by kernel_rfl) rfl #[.agg #[.int .i64 a0_0, .int .i64 a0_1], .agg #[.int .i64 a2_0, .int .i64 a2_1]] (by rfl) rfl rfl (by (try simp only [mp]); first | done | rfl | (simp only [ld]; rfl)) ?_
                  with_reducible refine (ratio_Add.calls kj310 a0_0 a0_1 a2_0 a2_1 t245 t246 _ A334.out).mono ?_
                  rintro e w357 ⟨rfl, hb⟩
                  refine ⟨_, rfl, ?_⟩
                  replace BK170 := kb BK170 hb
                  replace BK171 := kb BK171 hb
                  replace BK172 := kb BK172 hb
                  replace BK175 := kb BK175 hb
                  replace BK178 := kb BK178 hb
                  replace BK209 := kb BK209 hb
                  replace BK214 := kb BK214 hb
                  replace HB := hs' HB (by repeat first | (with_reducible exact HB.out) | refine bl1 ?_ | (with_reducible refine bset ?_ ‹_›) | exact HB.out) hb
                  (try clear hb); (try clear hb2); (try clear hk); (try clear hi)
                  refine hK.out _ _ ⟨(blk_cell BK170.out 0).trans rfl, (blk_cell BK170.out 1).trans rfl, (blk_cell BK171.out 0).trans rfl, (blk_cell BK171.out 1).trans rfl, (blk_cell BK172.out 0).trans rfl, (blk_cell BK172.out 1).trans rfl⟩ (fun hHeld => ?_)
                  clear hK K
                  refine norm_ (a' := ?_) ?_ ?_
                  rotate_left
                  ·
                   show Act.put _ (some 115) _ = _
                   simp only [ap]; rfl
                  refine one_ (i := 7) (N := some 118) (bA 23 255) rfl rfl (one_of HT_.out (by kernel_rfl)) (by decide) (fun K hK => ?_)
                  refine goes_ Try.func12 (by kernel_rfl) rfl #[.agg #[.int .i64 a1_0, .int .i64 a1_1], .agg #[.int .i64 a2_0, .int .i64 a2_1]] (by rfl) rfl rfl (by (try simp only [mp]); first | done | rfl | (simp only [ld]; rfl)) ?_
                  with_reducible refine (ratio_Add.calls kj310 a1_0 a1_1 a2_0 a2_1 t247 t248 _ A335.out).mono ?_
                  rintro e w358 ⟨rfl, hb⟩
                  refine ⟨_, rfl, ?_⟩
                  replace BK170 := kb BK170 hb
                  replace BK171 := kb BK171 hb
                  replace BK172 := kb BK172 hb
                  replace BK175 := kb BK175 hb
                  replace BK178 := kb BK178 hb
                  replace BK209 := kb BK209 hb
                  replace BK214 := kb BK214 hb
                  replace HB := hs' HB (by repeat first | (with_reducible exact HB.out) | refine bl1 ?_ | (with_reducible refine bset ?_ ‹_›) | exact HB.out) hb
                  (try clear hb); (try clear hb2); (try clear hk); (try clear hi)
                  refine hK.out _ _ ⟨(blk_cell BK170.out 0).trans rfl, (blk_cell BK170.out 1).trans rfl, (blk_cell BK171.out 0).trans rfl, (blk_cell BK171.out 1).trans rfl, (blk_cell BK172.out 0).trans rfl, (blk_cell BK172.out 1).trans rfl⟩ (fun hHeld => ?_)
                  clear hK K
                  refine norm_ (a' := ?_) ?_ ?_
                  rotate_left
                  ·
                   show Act.put _ (some 118) _ = _
                   simp only [ap]; rfl
                  refine one_ (i := 8) (N := some 119) (bA 23 511) rfl rfl (one_of HT_.out (by kernel_rfl)) (by decide) (fun K hK => ?_)
                  refine Kd.R_lit_step k24 _ 24 ?hg (N := 119) ?hd (xs := ([(⟨a0_0, a0_1⟩ : S24), (⟨a1_0, a1_1⟩ : S24), (⟨t245, t246⟩ : S24), (⟨t247, t248⟩ : S24)] : List (S24))) (inner := [.int .i64 a0_0, .int .i64 a0_1, .int .i64 a1_0, .int .i64 a1_1, .int .i64 t245, .int .i64 t246, .int .i64 t247, .int .i64 t248]) (ok := fun _ => True) (okp := fun _ => True) ?hr ?hp (fun _ hk => hk) trivial (Below.refl _ _) (Nat.le_refl _) (by simp) ?_; (case hd => rfl); (case hg => rfl); (case hr => first | (go_simp; done) | (go_simp; rfl)); (case hp => exact (Reps.c2 (show Kd.M k24 _ _ _ (⟨a0_0, a0_1⟩ : S24) [.int .i64 a0_0, .int .i64 a0_1] from (k24_mkM _ _ _ (⟨a0_0, a0_1⟩ : S24) )) (Reps.c2 (show Kd.M k24 _ _ _ (⟨a1_0, a1_1⟩ : S24) [.int .i64 a1_0, .int .i64 a1_1] from (k24_mkM _ _ _ (⟨a1_0, a1_1⟩ : S24) )) (Reps.c2 (show Kd.M k24 _ _ _ (⟨t245, t246⟩ : S24) [.int .i64 t245, .int .i64 t246] from (k24_mkM _ _ _ (⟨t245, t246⟩ : S24) )) (Reps.c2 (show Kd.M k24 _ _ _ (⟨t247, t248⟩ : S24) [.int .i64 t247, .int .i64 t248] from (k24_mkM _ _ _ (⟨t247, t248⟩ : S24) )) (Reps.none _ _))))))
                  intro v250 w359 ho360 hb hg_ hnew_
                  clear hg_ hnew_
                  (first | rw [← Ny249.out] at ho360 | (simp only [Int.reduceToNat] at ho360; rw [← Ny249.out] at ho360))
                  have HO251 := Aside0.mk (Kd.R_lower (Kd.R_newB (Kd.R_newB (Kd.R_newB (Kd.R_newB (Kd.R_newB (Kd.R_newB (Kd.R_newB ho360 (g := gb170) (o := .cells #[.int .i64 a0_0, .int .i64 a0_1] 24 (0, 0)) (bk BK170.out)) (g := gb171) (o := .cells #[.int .i64 a1_0, .int .i64 a1_1] 24 (0, 0)) (bk BK171.out)) (g := gb172) (o := .cells #[.int .i64 a2_0, .int .i64 a2_1] 24 (0, 0)) (bk BK172.out)) (g := gb175) (o := .cells #[.int .i64 t173, .int .i64 t174] 24 (0, 0)) (bk BK175.out)) (g := gb178) (o := .cells #[.int .i64 t176, .int .i64 t177] 24 (0, 0)) (bk BK178.out)) (g := gb209) (o := .cells #[.int .i64 t221, .int .i64 t222] 24 (0, 0)) (bk BK209.out)) (g := gb214) (o := .cells #[.int .i64 t227, .int .i64 t228] 24 (0, 0)) (bk BK214.out)) (below_size (by repeat first | (with_reducible exact HB.out) | refine bl1 ?_ | (with_reducible refine bset ?_ ‹_›) | exact HB.out)))
                  replace BK170 := kb BK170 hb
                  replace BK171 := kb BK171 hb
                  replace BK172 := kb BK172 hb
                  replace BK175 := kb BK175 hb
                  replace BK178 := kb BK178 hb
                  replace BK209 := kb BK209 hb
                  replace BK214 := kb BK214 hb
                  replace HB := hs' HB (by repeat first | (with_reducible exact HB.out) | refine bl1 ?_ | (with_reducible refine bset ?_ ‹_›) | exact HB.out) hb
                  clear hb ho360
                  obtain ⟨Ao361, co361, eo361⟩ := Kd.R_slice HO251.out
                  (first | subst eo361 | (injection eo361 with f1_ f2_ f3_; have f4_ := f1_.symm; have f5_ := f3_.symm; clear f1_ f2_ f3_; subst f4_; subst f5_))
                  refine hK.out _ _ ⟨(blk_cell BK170.out 0).trans rfl, (blk_cell BK170.out 1).trans rfl, (blk_cell BK171.out 0).trans rfl, (blk_cell BK171.out 1).trans rfl, (blk_cell BK172.out 0).trans rfl, (blk_cell BK172.out 1).trans rfl⟩ (fun hHeld => ?_)
                  clear hK K
                  refine norm_ (a' := ?_) ?_ ?_
                  rotate_left
                  ·
                   show Act.put _ (some 119) _ = _
                   simp only [ap]; rfl
                  refine one_ (i := 9) (N := some 120) (bA 23 1023) rfl rfl (one_of HT_.out (by kernel_rfl)) (by decide) (fun K hK => ?_)
                  refine goes_ Try.func14 (by kernel_rfl) rfl #[.slice Ao361 y249.length co361] (by rfl) rfl rfl (by (try simp only [mp]); first | done | rfl | (simp only [ld]; rfl)) ?_
                  with_reducible refine (serinettelaw01_numbers.calls kj310 _ _ y249 true _ ?side1 ?side2 A336.out).mono ?_
                  (case side1 => repeat (first | exact (Kd.R_reads' HO251.out).2.2 | (with_reducible refine Kd.C_alloc ?_ _) | (with_reducible refine Kd.C_drewN ?_ _) | (with_reducible refine Kd.C_drew ?_)))
                  (case side2 => exact (Kd.R_reads' HO251.out).2.1)
                  rintro e w362 ⟨rfl, hb⟩
                  refine ⟨_, rfl, ?_⟩
                  replace HO251 := Aside0.mk (Kd.R_below (by (with_reducible repeat (first | apply Kd.R_alloc | apply Kd.R_drewN | apply Kd.R_drew)); exact HO251.out) hb)
                  replace BK170 := kb BK170 hb
                  replace BK171 := kb BK171 hb
                  replace BK172 := kb BK172 hb
                  replace BK175 := kb BK175 hb
                  replace BK178 := kb BK178 hb
                  replace BK209 := kb BK209 hb
                  replace BK214 := kb BK214 hb
                  replace HB := hs' HB (by repeat first | (with_reducible exact HB.out) | refine bl1 ?_ | (with_reducible refine bset ?_ ‹_›) | exact HB.out) hb
                  (try clear hb); (try clear hb2); (try clear hk); (try clear hi)
                  refine hK.out _ _ ⟨(blk_cell BK170.out 0).trans rfl, (blk_cell BK170.out 1).trans rfl, (blk_cell BK171.out 0).trans rfl, (blk_cell BK171.out 1).trans rfl, (blk_cell BK172.out 0).trans rfl, (blk_cell BK172.out 1).trans rfl⟩ (fun hHeld => ?_)
                  clear hK K
                  refine norm_ (a' := ?_) ?_ ?_
                  rotate_left
                  ·
                   show Act.put _ (some 120) _ = _
                   simp only [ap]; rfl
                  refine pure_ (i := 10) (N := some 121) (v := ?_) (a' := ?_) (bA 23 2047) rfl rfl (any_of HT_.out (by kernel_rfl)) (fun _ _ _ h => h) (Or.inl ⟨by rfl, ?_⟩) ?_ ?_
                  rotate_left
                  ·
                   intro w'
                   go_simp; with_reducible rfl
                  rotate_left
                  ·
                   simp only [ap]
                   rfl
                  refine take_ (i := 11) (N := some 122) (v := ?_) (a' := ?_) (bA 23 4095) rfl rfl (take_ofW HT_.out HW_.out (by kernel_rfl)) (fun _ _ _ h => h) (Or.inl ⟨by rfl, ?_⟩) hHeld ?_ ?_
                  rotate_left
                  ·
                   rintro w' ⟨s0, s1, s2, s3, s4, s5⟩
                   go_simp; with_reducible rfl
                  rotate_left
                  ·
                   simp only [ap]
                   rfl
                  refine take_ (i := 12) (N := some 123) (v := ?_) (a' := ?_) (bA 23 8191) rfl rfl (take_ofW HT_.out HW_.out (by kernel_rfl)) (fun _ _ _ h => h) (Or.inl ⟨by rfl, ?_⟩) hHeld ?_ ?_
                  rotate_left
                  ·
                   rintro w' ⟨s0, s1, s2, s3, s4, s5⟩
                   go_simp; with_reducible rfl
                  rotate_left
                  ·
                   simp only [ap]
                   rfl
                  refine take_ (i := 14) (N := some 125) (v := ?_) (a' := ?_) (bA 23 24575) rfl rfl (take_ofW HT_.out HW_.out (by kernel_rfl)) (fun _ _ _ h => h) (Or.inl ⟨by rfl, ?_⟩) hHeld ?_ ?_
                  rotate_left
                  ·
                   rintro w' ⟨s0, s1, s2, s3, s4, s5⟩
                   go_simp; with_reducible rfl
                  rotate_left
                  ·
                   simp only [ap]
                   rfl
                  refine take_ (i := 15) (N := some 126) (v := ?_) (a' := ?_) (bA 23 57343) rfl rfl (take_ofW HT_.out HW_.out (by kernel_rfl)) (fun _ _ _ h => h) (Or.inl ⟨by rfl, ?_⟩) hHeld ?_ ?_
                  rotate_left
                  ·
                   rintro w' ⟨s0, s1, s2, s3, s4, s5⟩
                   go_simp; with_reducible rfl
                  rotate_left
                  ·
                   simp only [ap]
                   rfl
                  refine take_ (i := 17) (N := some 128) (v := ?_) (a' := ?_) (bA 23 188415) rfl rfl (take_ofW HT_.out HW_.out (by kernel_rfl)) (fun _ _ _ h => h) (Or.inl ⟨by rfl, ?_⟩) hHeld ?_ ?_
                  rotate_left
                  ·
                   rintro w' ⟨s0, s1, s2, s3, s4, s5⟩
                   go_simp; with_reducible rfl
                  rotate_left
                  ·
                   simp only [ap]
                   rfl
                  refine take_ (i := 18) (N := some 129) (v := ?_) (a' := ?_) (bA 23 450559) rfl rfl (take_ofW HT_.out HW_.out (by kernel_rfl)) (fun _ _ _ h => h) (Or.inl ⟨by rfl, ?_⟩) hHeld ?_ ?_
                  rotate_left
                  ·
                   rintro w' ⟨s0, s1, s2, s3, s4, s5⟩
                   go_simp; with_reducible rfl
                  rotate_left
                  ·
                   simp only [ap]
                   rfl
                  refine one_ (i := 13) (N := some 124) (bA 23 458751) rfl rfl (one_of HT_.out (by kernel_rfl)) (by decide) (fun K hK => ?_)
                  refine goes_ Try.func19 (by kernel_rfl) rfl #[.agg #[.int .i64 a0_0, .int .i64 a0_1], .agg #[.int .i64 a1_0, .int .i64 a1_1]] (by rfl) rfl rfl (by (try simp only [mp]); first | done | rfl | (simp only [ld]; rfl)) ?_
                  with_reducible refine (ratio_Cmp.calls kj310 a0_0 a0_1 a1_0 a1_1 t253 _ A338.out).mono ?_
                  rintro e w363 ⟨rfl, hb⟩
                  refine ⟨_, rfl, ?_⟩
                  replace HO251 := Aside0.mk (Kd.R_below (by (with_reducible repeat (first | apply Kd.R_alloc | apply Kd.R_drewN | apply Kd.R_drew)); exact HO251.out) hb)
                  replace BK170 := kb BK170 hb
                  replace BK171 := kb BK171 hb
                  replace BK172 := kb BK172 hb
                  replace BK175 := kb BK175 hb
                  replace BK178 := kb BK178 hb
                  replace BK209 := kb BK209 hb
                  replace BK214 := kb BK214 hb
                  replace HB := hs' HB (by repeat first | (with_reducible exact HB.out) | refine bl1 ?_ | (with_reducible refine bset ?_ ‹_›) | exact HB.out) hb
                  (try clear hb); (try clear hb2); (try clear hk); (try clear hi)
                  refine hK.out _ _ ⟨(blk_cell BK170.out 0).trans rfl, (blk_cell BK170.out 1).trans rfl, (blk_cell BK171.out 0).trans rfl, (blk_cell BK171.out 1).trans rfl, (blk_cell BK172.out 0).trans rfl, (blk_cell BK172.out 1).trans rfl⟩ (fun hHeld => ?_)
                  clear hK K
                  refine norm_ (a' := ?_) ?_ ?_
                  rotate_left
                  ·
                   show Act.put _ (some 124) _ = _
                   simp only [ap]; rfl
                  refine one_ (i := 16) (N := some 127) (bA 23 524287) rfl rfl (one_of HT_.out (by kernel_rfl)) (by decide) (fun K hK => ?_)
                  refine goes_ Try.func12 (by kernel_rfl) rfl #[.agg #[.int .i64 a0_0, .int .i64 a0_1], .agg #[.int .i64 a2_0, .int .i64 a2_1]] (by rfl) rfl rfl (by (try simp only [mp]); first | done | rfl | (simp only [ld]; rfl)) ?_
                  with_reducible refine (ratio_Add.calls kj310 a0_0 a0_1 a2_0 a2_1 t254 t255 _ A339.out).mono ?_
                  rintro e w364 ⟨rfl, hb⟩
                  refine ⟨_, rfl, ?_⟩
                  replace HO251 := Aside0.mk (Kd.R_below (by (with_reducible repeat (first | apply Kd.R_alloc | apply Kd.R_drewN | apply Kd.R_drew)); exact HO251.out) hb)
                  replace BK170 := kb BK170 hb
                  replace BK171 := kb BK171 hb
                  replace BK172 := kb BK172 hb
                  replace BK175 := kb BK175 hb
                  replace BK178 := kb BK178 hb
                  replace BK209 := kb BK209 hb
                  replace BK214 := kb BK214 hb
                  replace HB := hs' HB (by repeat first | (with_reducible exact HB.out) | refine bl1 ?_ | (with_reducible refine bset ?_ ‹_›) | exact HB.out) hb
                  (try clear hb); (try clear hb2); (try clear hk); (try clear hi)
                  refine hK.out _ _ ⟨(blk_cell BK170.out 0).trans rfl, (blk_cell BK170.out 1).trans rfl, (blk_cell BK171.out 0).trans rfl, (blk_cell BK171.out 1).trans rfl, (blk_cell BK172.out 0).trans rfl, (blk_cell BK172.out 1).trans rfl⟩ (fun hHeld => ?_)
                  clear hK K
                  refine norm_ (a' := ?_) ?_ ?_
                  rotate_left
                  ·
                   show Act.put _ (some 127) _ = _
                   simp only [ap]; rfl
                  refine one_ (i := 19) (N := some 130) (bA 23 1048575) rfl rfl (one_of HT_.out (by kernel_rfl)) (by decide) (fun K hK => ?_)
                  refine goes_ Try.func12 (by kernel_rfl) rfl #[.agg #[.int .i64 a1_0, .int .i64 a1_1], .agg #[.int .i64 a2_0, .int .i64 a2_1]] (by rfl) rfl rfl (by (try simp only [mp]); first | done | rfl | (simp only [ld]; rfl)) ?_
                  with_reducible refine (ratio_Add.calls kj310 a1_0 a1_1 a2_0 a2_1 t256 t257 _ A340.out).mono ?_
                  rintro e w365 ⟨rfl, hb⟩
                  refine ⟨_, rfl, ?_⟩
                  replace HO251 := Aside0.mk (Kd.R_below (by (with_reducible repeat (first | apply Kd.R_alloc | apply Kd.R_drewN | apply Kd.R_drew)); exact HO251.out) hb)
                  replace BK170 := kb BK170 hb
                  replace BK171 := kb BK171 hb
                  replace BK172 := kb BK172 hb
                  replace BK175 := kb BK175 hb
                  replace BK178 := kb BK178 hb
                  replace BK209 := kb BK209 hb
                  replace BK214 := kb BK214 hb
                  replace HB := hs' HB (by repeat first | (with_reducible exact HB.out) | refine bl1 ?_ | (with_reducible refine bset ?_ ‹_›) | exact HB.out) hb
                  (try clear hb); (try clear hb2); (try clear hk); (try clear hi)
                  refine hK.out _ _ ⟨(blk_cell BK170.out 0).trans rfl, (blk_cell BK170.out 1).trans rfl, (blk_cell BK171.out 0).trans rfl, (blk_cell BK171.out 1).trans rfl, (blk_cell BK172.out 0).trans rfl, (blk_cell BK172.out 1).trans rfl⟩ (fun hHeld => ?_)
                  clear hK K
                  refine norm_ (a' := ?_) ?_ ?_
                  rotate_left
                  ·
                   show Act.put _ (some 130) _ = _
                   simp only [ap]; rfl
                  refine one_ (i := 20) (N := some 131) (bA 23 2097151) rfl rfl (one_of HT_.out (by kernel_rfl)) (by decide) (fun K hK => ?_)
                  refine goes_ Try.func19 (by kernel_rfl) rfl #[.agg #[.int .i64 t254, .int .i64 t255], .agg #[.int .i64 t256, .int .i64 t257]] (by rfl) rfl rfl (by (try simp only [mp]); first | done | rfl | (simp only [ld]; rfl)) ?_
                  with_reducible refine (ratio_Cmp.calls kj310 t254 t255 t256 t257 t258 _ A341.out).mono ?_
                  rintro e w366 ⟨rfl, hb⟩
                  refine ⟨_, rfl, ?_⟩
                  replace HO251 := Aside0.mk (Kd.R_below (by (with_reducible repeat (first | apply Kd.R_alloc | apply Kd.R_drewN | apply Kd.R_drew)); exact HO251.out) hb)
                  replace BK170 := kb BK170 hb
                  replace BK171 := kb BK171 hb
                  replace BK172 := kb BK172 hb
                  replace BK175 := kb BK175 hb
                  replace BK178 := kb BK178 hb
                  replace BK209 := kb BK209 hb
                  replace BK214 := kb BK214 hb
                  replace HB := hs' HB (by repeat first | (with_reducible exact HB.out) | refine bl1 ?_ | (with_reducible refine bset ?_ ‹_›) | exact HB.out) hb
                  (try clear hb); (try clear hb2); (try clear hk); (try clear hi)
                  refine hK.out _ _ ⟨(blk_cell BK170.out 0).trans rfl, (blk_cell BK170.out 1).trans rfl, (blk_cell BK171.out 0).trans rfl, (blk_cell BK171.out 1).trans rfl, (blk_cell BK172.out 0).trans rfl, (blk_cell BK172.out 1).trans rfl⟩ (fun hHeld => ?_)
                  clear hK K
                  refine norm_ (a' := ?_) ?_ ?_
                  rotate_left
                  ·
                   show Act.put _ (some 131) _ = _
                   simp only [ap]; rfl
                  refine pure_ (i := 21) (N := some 132) (v := ?_) (a' := ?_) (bA 23 4194303) rfl rfl (any_of HT_.out (by kernel_rfl)) (fun _ _ _ h => h) (Or.inl ⟨by rfl, ?_⟩) ?_ ?_
                  rotate_left
                  ·
                   intro w'
                   go_simp; with_reducible rfl
                  rotate_left
                  ·
                   simp only [ap]
                   rfl
                  refine pure_ (i := 22) (N := some 133) (v := ?_) (a' := ?_) (bA 23 8388607) rfl rfl (any_of HT_.out (by kernel_rfl)) (fun _ _ _ h => h) (Or.inl ⟨by rfl, ?_⟩) ?_ ?_
                  rotate_left
                  ·
                   intro w'
                   go_simp; with_reducible rfl
                  rotate_left
                  ·
                   simp only [ap]
                   rfl
                  refine done_ (done_of HT_.out (by kernel_rfl)) ?_
                  try go_wp2
                  go_ret
                  exact ⟨by first | rfl | (simp [errW_none, errW_some] <;> rfl) | (simp [*, errW_none, errW_some] <;> rfl), by repeat first | exact HB.out | refine bset ?_ ‹_› | apply below_alloc | apply pw_below_drewN | apply below_drew1⟩
                ·
                 replace c337 := Bool.eq_false_iff.mpr c337
                 subst c337
                 rw [if_neg (show ¬ (false = true) by decide)] at H
                 replace H := Option.bind_eq_some_iff.mp H
                 obtain ⟨t260, A3670, H⟩ := H
                 (try dsimp only at H)
                 have A367 := Aside0.mk A3670
                 clear A3670
                 obtain rfl := Option.some.inj H
                 try go_wp2
                 replace BK170 := kd BK170
                 replace BK171 := kd BK171
                 replace BK172 := kd BK172
                 replace BK175 := kd BK175
                 replace BK178 := kd BK178
                 replace BK209 := kd BK209
                 replace BK214 := kd BK214
                 replace HB := Aside0.mk (below_drew1 HB.out)
                 refine start_ (n := 23) (S := fun w' => w'.cell? ⟨gb170, 0, none⟩ = some (.int .i64 a0_0) ∧ w'.cell? ⟨gb170, 1, none⟩ = some (.int .i64 a0_1) ∧ w'.cell? ⟨gb171, 0, none⟩ = some (.int .i64 a1_0) ∧ w'.cell? ⟨gb171, 1, none⟩ = some (.int .i64 a1_1) ∧ w'.cell? ⟨gb172, 0, none⟩ = some (.int .i64 a2_0) ∧ w'.cell? ⟨gb172, 1, none⟩ = some (.int .i64 a2_1)) (ds := []) (bA 23 0) (by kernel_rfl) rfl rfl ⟨(blk_cell BK170.out 0).trans rfl, (blk_cell BK170.out 1).trans rfl, (blk_cell BK171.out 0).trans rfl, (blk_cell BK171.out 1).trans rfl, (blk_cell BK172.out 0).trans rfl, (blk_cell BK172.out 1).trans rfl⟩ (fun hHeld => ?_); refine with_tabW serinettelaw01_NumberField.tab17 serinettelaw01_NumberField.bits17 (fun HT_ HW_ => ?_)
                 generalize wc.drew = w368 at BK170 BK171 BK172 BK175 BK178 BK209 BK214 HB hHeld ⊢
                 refine take_ (i := 0) (N := some 111) (v := ?_) (a' := ?_) (bA 23 1) rfl rfl (take_ofW HT_.out HW_.out (by kernel_rfl)) (fun _ _ _ h => h) (Or.inl ⟨by rfl, ?_⟩) hHeld ?_ ?_
                 rotate_left
                 ·
                  rintro w' ⟨s0, s1, s2, s3, s4, s5⟩
                  go_simp; with_reducible rfl
                 rotate_left
                 ·
                  simp only [ap]
                  rfl
                 refine take_ (i := 1) (N := some 112) (v := ?_) (a' := ?_) (bA 23 3) rfl rfl (take_ofW HT_.out HW_.out (by kernel_rfl)) (fun _ _ _ h => h) (Or.inl ⟨by rfl, ?_⟩) hHeld ?_ ?_
                 rotate_left
                 ·
                  rintro w' ⟨s0, s1, s2, s3, s4, s5⟩
                  go_simp; with_reducible rfl
                 rotate_left
                 ·
                  simp only [ap]
                  rfl
                 refine take_ (i := 2) (N := some 113) (v := ?_) (a' := ?_) (bA 23 7) rfl rfl (take_ofW HT_.out HW_.out (by kernel_rfl)) (fun _ _ _ h => h) (Or.inl ⟨by rfl, ?_⟩) hHeld ?_ ?_
                 rotate_left
                 ·
                  rintro w' ⟨s0, s1, s2, s3, s4, s5⟩
                  go_simp; with_reducible rfl
                 rotate_left
                 ·
                  simp only [ap]
                  rfl
                 refine take_ (i := 3) (N := some 114) (v := ?_) (a' := ?_) (bA 23 15) rfl rfl (take_ofW HT_.out HW_.out (by kernel_rfl)) (fun _ _ _ h => h) (Or.inl ⟨by rfl, ?_⟩) hHeld ?_ ?_
                 rotate_left
                 ·
                  rintro w' ⟨s0, s1, s2, s3, s4, s5⟩
                  go_simp; with_reducible rfl
                 rotate_left
                 ·
                  simp only [ap]
                  rfl
                 refine take_ (i := 5) (N := some 116) (v := ?_) (a' := ?_) (bA 23 47) rfl rfl (take_ofW HT_.out HW_.out (by kernel_rfl)) (fun _ _ _ h => h) (Or.inl ⟨by rfl, ?_⟩) hHeld ?_ ?_
                 rotate_left
                 ·
                  rintro w' ⟨s0, s1, s2, s3, s4, s5⟩
                  go_simp; with_reducible rfl
                 rotate_left
                 ·
                  simp only [ap]
                  rfl
                 refine take_ (i := 6) (N := some 117) (v := ?_) (a' := ?_) (bA 23 111) rfl rfl (take_ofW HT_.out HW_.out (by kernel_rfl)) (fun _ _ _ h => h) (Or.inl ⟨by rfl, ?_⟩) hHeld ?_ ?_
                 rotate_left
                 ·
                  rintro w' ⟨s0, s1, s2, s3, s4, s5⟩
                  go_simp; with_reducible rfl
                 rotate_left
                 ·
                  simp only [ap]
                  rfl
                 refine one_ (i := 4) (N := some 115) (bA 23 127) rfl rfl (one_of HT_.out (by kernel_rfl)) (by decide) (fun K hK => ?_)
                 refine goes_ Try.func12 (by kernel_rfl) rfl #[.agg #[.int .i64 a0_0, .int .i64 a0_1], .agg #[.int .i64 a2_0, .int .i64 a2_1]] (by rfl) rfl rfl (by (try simp only [mp]); first | done | rfl | (simp only [ld]; rfl)) ?_
                 with_reducible refine (ratio_Add.calls kj310 a0_0 a0_1 a2_0 a2_1 t245 t246 _ A334.out).mono ?_
                 rintro e w369 ⟨rfl, hb⟩
                 refine ⟨_, rfl, ?_⟩
                 replace BK170 := kb BK170 hb
                 replace BK171 := kb BK171 hb
                 replace BK172 := kb BK172 hb
                 replace BK175 := kb BK175 hb
                 replace BK178 := kb BK178 hb
                 replace BK209 := kb BK209 hb
                 replace BK214 := kb BK214 hb
                 replace HB := hs' HB (by repeat first | (with_reducible exact HB.out) | refine bl1 ?_ | (with_reducible refine bset ?_ ‹_›) | exact HB.out) hb
                 (try clear hb); (try clear hb2); (try clear hk); (try clear hi)
                 refine hK.out _ _ ⟨(blk_cell BK170.out 0).trans rfl, (blk_cell BK170.out 1).trans rfl, (blk_cell BK171.out 0).trans rfl, (blk_cell BK171.out 1).trans rfl, (blk_cell BK172.out 0).trans rfl, (blk_cell BK172.out 1).trans rfl⟩ (fun hHeld => ?_)
                 clear hK K
                 refine norm_ (a' := ?_) ?_ ?_
                 rotate_left
                 ·
                  show Act.put _ (some 115) _ = _
                  simp only [ap]; rfl
                 refine one_ (i := 7) (N := some 118) (bA 23 255) rfl rfl (one_of HT_.out (by kernel_rfl)) (by decide) (fun K hK => ?_)
                 refine goes_ Try.func12 (by kernel_rfl) rfl #[.agg #[.int .i64 a1_0, .int .i64 a1_1], .agg #[.int .i64 a2_0, .int .i64 a2_1]] (by rfl) rfl rfl (by (try simp only [mp]); first | done | rfl | (simp only [ld]; rfl)) ?_
                 with_reducible refine (ratio_Add.calls kj310 a1_0 a1_1 a2_0 a2_1 t247 t248 _ A335.out).mono ?_
                 rintro e w370 ⟨rfl, hb⟩
                 refine ⟨_, rfl, ?_⟩
                 replace BK170 := kb BK170 hb
                 replace BK171 := kb BK171 hb
                 replace BK172 := kb BK172 hb
                 replace BK175 := kb BK175 hb
                 replace BK178 := kb BK178 hb
                 replace BK209 := kb BK209 hb
                 replace BK214 := kb BK214 hb
                 replace HB := hs' HB (by repeat first | (with_reducible exact HB.out) | refine bl1 ?_ | (with_reducible refine bset ?_ ‹_›) | exact HB.out) hb
                 (try clear hb); (try clear hb2); (try clear hk); (try clear hi)
                 refine hK.out _ _ ⟨(blk_cell BK170.out 0).trans rfl, (blk_cell BK170.out 1).trans rfl, (blk_cell BK171.out 0).trans rfl, (blk_cell BK171.out 1).trans rfl, (blk_cell BK172.out 0).trans rfl, (blk_cell BK172.out 1).trans rfl⟩ (fun hHeld => ?_)
                 clear hK K
                 refine norm_ (a' := ?_) ?_ ?_
                 rotate_left
                 ·
                  show Act.put _ (some 118) _ = _
                  simp only [ap]; rfl
                 refine one_ (i := 8) (N := some 119) (bA 23 511) rfl rfl (one_of HT_.out (by kernel_rfl)) (by decide) (fun K hK => ?_)
                 refine Kd.R_lit_step k24 _ 24 ?hg (N := 119) ?hd (xs := ([(⟨a0_0, a0_1⟩ : S24), (⟨a1_0, a1_1⟩ : S24), (⟨t245, t246⟩ : S24), (⟨t247, t248⟩ : S24)] : List (S24))) (inner := [.int .i64 a0_0, .int .i64 a0_1, .int .i64 a1_0, .int .i64 a1_1, .int .i64 t245, .int .i64 t246, .int .i64 t247, .int .i64 t248]) (ok := fun _ => True) (okp := fun _ => True) ?hr ?hp (fun _ hk => hk) trivial (Below.refl _ _) (Nat.le_refl _) (by simp) ?_; (case hd => rfl); (case hg => rfl); (case hr => first | (go_simp; done) | (go_simp; rfl)); (case hp => exact (Reps.c2 (show Kd.M k24 _ _ _ (⟨a0_0, a0_1⟩ : S24) [.int .i64 a0_0, .int .i64 a0_1] from (k24_mkM _ _ _ (⟨a0_0, a0_1⟩ : S24) )) (Reps.c2 (show Kd.M k24 _ _ _ (⟨a1_0, a1_1⟩ : S24) [.int .i64 a1_0, .int .i64 a1_1] from (k24_mkM _ _ _ (⟨a1_0, a1_1⟩ : S24) )) (Reps.c2 (show Kd.M k24 _ _ _ (⟨t245, t246⟩ : S24) [.int .i64 t245, .int .i64 t246] from (k24_mkM _ _ _ (⟨t245, t246⟩ : S24) )) (Reps.c2 (show Kd.M k24 _ _ _ (⟨t247, t248⟩ : S24) [.int .i64 t247, .int .i64 t248] from (k24_mkM _ _ _ (⟨t247, t248⟩ : S24) )) (Reps.none _ _))))))
                 intro v250 w371 ho372 hb hg_ hnew_
                 clear hg_ hnew_
                 (first | rw [← Ny249.out] at ho372 | (simp only [Int.reduceToNat] at ho372; rw [← Ny249.out] at ho372))
                 have HO251 := Aside0.mk (Kd.R_lower (Kd.R_newB (Kd.R_newB (Kd.R_newB (Kd.R_newB (Kd.R_newB (Kd.R_newB (Kd.R_newB ho372 (g := gb170) (o := .cells #[.int .i64 a0_0, .int .i64 a0_1] 24 (0, 0)) (bk BK170.out)) (g := gb171) (o := .cells #[.int .i64 a1_0, .int .i64 a1_1] 24 (0, 0)) (bk BK171.out)) (g := gb172) (o := .cells #[.int .i64 a2_0, .int .i64 a2_1] 24 (0, 0)) (bk BK172.out)) (g := gb175) (o := .cells #[.int .i64 t173, .int .i64 t174] 24 (0, 0)) (bk BK175.out)) (g := gb178) (o := .cells #[.int .i64 t176, .int .i64 t177] 24 (0, 0)) (bk BK178.out)) (g := gb209) (o := .cells #[.int .i64 t221, .int .i64 t222] 24 (0, 0)) (bk BK209.out)) (g := gb214) (o := .cells #[.int .i64 t227, .int .i64 t228] 24 (0, 0)) (bk BK214.out)) (below_size (by repeat first | (with_reducible exact HB.out) | refine bl1 ?_ | (with_reducible refine bset ?_ ‹_›) | exact HB.out)))
                 replace BK170 := kb BK170 hb
                 replace BK171 := kb BK171 hb
                 replace BK172 := kb BK172 hb
                 replace BK175 := kb BK175 hb
                 replace BK178 := kb BK178 hb
                 replace BK209 := kb BK209 hb
                 replace BK214 := kb BK214 hb
                 replace HB := hs' HB (by repeat first | (with_reducible exact HB.out) | refine bl1 ?_ | (with_reducible refine bset ?_ ‹_›) | exact HB.out) hb
                 clear hb ho372
                 obtain ⟨Ao373, co373, eo373⟩ := Kd.R_slice HO251.out
                 (first | subst eo373 | (injection eo373 with f1_ f2_ f3_; have f4_ := f1_.symm; have f5_ := f3_.symm; clear f1_ f2_ f3_; subst f4_; subst f5_))
                 refine hK.out _ _ ⟨(blk_cell BK170.out 0).trans rfl, (blk_cell BK170.out 1).trans rfl, (blk_cell BK171.out 0).trans rfl, (blk_cell BK171.out 1).trans rfl, (blk_cell BK172.out 0).trans rfl, (blk_cell BK172.out 1).trans rfl⟩ (fun hHeld => ?_)
                 clear hK K
                 refine norm_ (a' := ?_) ?_ ?_
                 rotate_left
                 ·
                  show Act.put _ (some 119) _ = _
                  simp only [ap]; rfl
                 refine one_ (i := 9) (N := some 120) (bA 23 1023) rfl rfl (one_of HT_.out (by kernel_rfl)) (by decide) (fun K hK => ?_)
                 refine goes_ Try.func14 (by kernel_rfl) rfl #[.slice Ao373 y249.length co373] (by rfl) rfl rfl (by (try simp only [mp]); first | done | rfl | (simp only [ld]; rfl)) ?_
                 with_reducible refine (serinettelaw01_numbers.calls kj310 _ _ y249 false _ ?side1 ?side2 A336.out).mono ?_
                 (case side1 => repeat (first | exact (Kd.R_reads' HO251.out).2.2 | (with_reducible refine Kd.C_alloc ?_ _) | (with_reducible refine Kd.C_drewN ?_ _) | (with_reducible refine Kd.C_drew ?_)))
                 (case side2 => exact (Kd.R_reads' HO251.out).2.1)
                 rintro e w374 ⟨rfl, hb⟩
                 refine ⟨_, rfl, ?_⟩
                 replace HO251 := Aside0.mk (Kd.R_below (by (with_reducible repeat (first | apply Kd.R_alloc | apply Kd.R_drewN | apply Kd.R_drew)); exact HO251.out) hb)
                 replace BK170 := kb BK170 hb
                 replace BK171 := kb BK171 hb
                 replace BK172 := kb BK172 hb
                 replace BK175 := kb BK175 hb
                 replace BK178 := kb BK178 hb
                 replace BK209 := kb BK209 hb
                 replace BK214 := kb BK214 hb
                 replace HB := hs' HB (by repeat first | (with_reducible exact HB.out) | refine bl1 ?_ | (with_reducible refine bset ?_ ‹_›) | exact HB.out) hb
                 (try clear hb); (try clear hb2); (try clear hk); (try clear hi)
                 refine hK.out _ _ ⟨(blk_cell BK170.out 0).trans rfl, (blk_cell BK170.out 1).trans rfl, (blk_cell BK171.out 0).trans rfl, (blk_cell BK171.out 1).trans rfl, (blk_cell BK172.out 0).trans rfl, (blk_cell BK172.out 1).trans rfl⟩ (fun hHeld => ?_)
                 clear hK K
                 refine norm_ (a' := ?_) ?_ ?_
                 rotate_left
                 ·
                  show Act.put _ (some 120) _ = _
                  simp only [ap]; rfl
                 refine pure_ (i := 10) (N := some 121) (v := ?_) (a' := ?_) (bA 23 2047) rfl rfl (any_of HT_.out (by kernel_rfl)) (fun _ _ _ h => h) (Or.inl ⟨by rfl, ?_⟩) ?_ ?_
                 rotate_left
                 ·
                  intro w'
                  go_simp; with_reducible rfl
                 rotate_left
                 ·
                  simp only [ap]
                  rfl
                 refine pure_ (i := 11) (N := some 122) (v := undef) (a' := ?_) (bA 23 4095) rfl rfl (any_of HT_.out (by kernel_rfl)) (fun _ _ _ h => h) (Or.inr ⟨by rfl, rfl⟩) ?_ ?_
                 rotate_left
                 ·
                  simp only [ap]
                  rfl
                 refine pure_ (i := 12) (N := some 123) (v := undef) (a' := ?_) (bA 23 8191) rfl rfl (any_of HT_.out (by kernel_rfl)) (fun _ _ _ h => h) (Or.inr ⟨by rfl, rfl⟩) ?_ ?_
                 rotate_left
                 ·
                  simp only [ap]
                  rfl
                 refine pure_ (i := 13) (N := some 124) (v := undef) (a' := ?_) (bA 23 16383) rfl rfl (any_of HT_.out (by kernel_rfl)) (fun _ _ _ h => h) (Or.inr ⟨by rfl, rfl⟩) ?_ ?_
                 rotate_left
                 ·
                  simp only [ap]
                  rfl
                 refine pure_ (i := 14) (N := some 125) (v := undef) (a' := ?_) (bA 23 32767) rfl rfl (any_of HT_.out (by kernel_rfl)) (fun _ _ _ h => h) (Or.inr ⟨by rfl, rfl⟩) ?_ ?_
                 rotate_left
                 ·
                  simp only [ap]
                  rfl
                 refine pure_ (i := 15) (N := some 126) (v := undef) (a' := ?_) (bA 23 65535) rfl rfl (any_of HT_.out (by kernel_rfl)) (fun _ _ _ h => h) (Or.inr ⟨by rfl, rfl⟩) ?_ ?_
                 rotate_left
                 ·
                  simp only [ap]
                  rfl
                 refine pure_ (i := 16) (N := some 127) (v := undef) (a' := ?_) (bA 23 131071) rfl rfl (any_of HT_.out (by kernel_rfl)) (fun _ _ _ h => h) (Or.inr ⟨by rfl, rfl⟩) ?_ ?_
                 rotate_left
                 ·
                  simp only [ap]
                  rfl
                 refine pure_ (i := 17) (N := some 128) (v := undef) (a' := ?_) (bA 23 262143) rfl rfl (any_of HT_.out (by kernel_rfl)) (fun _ _ _ h => h) (Or.inr ⟨by rfl, rfl⟩) ?_ ?_
                 rotate_left
                 ·
                  simp only [ap]
                  rfl
                 refine pure_ (i := 18) (N := some 129) (v := undef) (a' := ?_) (bA 23 524287) rfl rfl (any_of HT_.out (by kernel_rfl)) (fun _ _ _ h => h) (Or.inr ⟨by rfl, rfl⟩) ?_ ?_
                 rotate_left
                 ·
                  simp only [ap]
                  rfl
                 refine pure_ (i := 19) (N := some 130) (v := undef) (a' := ?_) (bA 23 1048575) rfl rfl (any_of HT_.out (by kernel_rfl)) (fun _ _ _ h => h) (Or.inr ⟨by rfl, rfl⟩) ?_ ?_
                 rotate_left
                 ·
                  simp only [ap]
                  rfl
                 refine pure_ (i := 20) (N := some 131) (v := undef) (a' := ?_) (bA 23 2097151) rfl rfl (any_of HT_.out (by kernel_rfl)) (fun _ _ _ h => h) (Or.inr ⟨by rfl, rfl⟩) ?_ ?_
                 rotate_left
                 ·
                  simp only [ap]
                  rfl
                 refine pure_ (i := 21) (N := some 132) (v := undef) (a' := ?_) (bA 23 4194303) rfl rfl (any_of HT_.out (by kernel_rfl)) (fun _ _ _ h => h) (Or.inr ⟨by rfl, rfl⟩) ?_ ?_
                 rotate_left
                 ·
                  simp only [ap]
                  rfl
                 refine pure_ (i := 22) (N := some 133) (v := ?_) (a' := ?_) (bA 23 8388607) rfl rfl (any_of HT_.out (by kernel_rfl)) (fun _ _ _ h => h) (Or.inl ⟨by rfl, ?_⟩) ?_ ?_
                 rotate_left
                 ·
                  intro w'
                  go_simp; with_reducible rfl
                 rotate_left
                 ·
                  simp only [ap]
                  rfl
                 refine done_ (done_of HT_.out (by kernel_rfl)) ?_
                 try go_wp2_with (first | ((with_reducible refine gate_callee (f := 11) rfl ?_); refine goesL_ (some 134) rfl rfl Try.func11 (by kernel_rfl) rfl #[] rfl (by (try simp only [mp]); first | done | rfl | (simp only [ld]; rfl)) ?_; (with_reducible refine (serinettelaw01_awake.calls kj310  t260 _ A367.out).mono ?_); rintro e w375 ⟨rfl, hb⟩; refine ⟨_, rfl, ?_⟩; replace HO251 := Aside0.mk (Kd.R_below (by (with_reducible repeat (first | apply Kd.R_alloc | apply Kd.R_drewN | apply Kd.R_drew)); exact HO251.out) hb); replace BK170 := kb BK170 hb; replace BK171 := kb BK171 hb; replace BK172 := kb BK172 hb; replace BK175 := kb BK175 hb; replace BK178 := kb BK178 hb; replace BK209 := kb BK209 hb; replace BK214 := kb BK214 hb; replace HB := hs' HB (by repeat first | (with_reducible exact HB.out) | refine bl1 ?_ | (with_reducible refine bset ?_ ‹_›) | exact HB.out) hb; (try clear hb); (try clear hb2); (try clear hk); (try clear hi)))
                 go_ret
                 exact ⟨by first | rfl | (simp [errW_none, errW_some] <;> rfl) | (simp [*, errW_none, errW_some] <;> rfl), by repeat first | exact HB.out | refine bset ?_ ‹_› | apply below_alloc | apply pw_below_drewN | apply below_drew1⟩
end Go.Proofs.Ytgecbfemlpmpeaa.SNumberField
