/- Parts of the proof of SpanNests, joined by program out of this session's own texts. -/
import Derived.Test.YtlibjgmnookakaaDoorZP2
set_option linter.unusedVariables false
set_option linter.unusedSimpArgs false
namespace Go.Proofs.YtlibjgmnookakaaDoor.SSpanNests
open Go.RowKit Go.Proofs.YtlibjgmnookakaaDoor.Wd.PrintWords Go.Proofs.YtlibjgmnookakaaDoor.Wd.PrintLast Go.Proofs.YtlibjgmnookakaaDoor.Wd.PrintMore
attribute [local go_sem] max2_int min2_int max_two min_two max_three min_three max_four min_four
attribute [local go_sem] max2_int min2_int max_two min_two max_three min_three max_four min_four
attribute [local go_sem] max2_int min2_int max_two min_two max_three min_three max_four min_four
attribute [local go_sem high] eqA23
attribute [local go_sem high] eqA25
set_option maxHeartbeats 8000000 in
set_option maxRecDepth 100000 in
theorem span_closed.calls (k : Nat) (a0_0 : Int) (a0_1 : Int) (a0_2 : Bool) (a1_0 : Int) (a1_1 : Int) (a1_2 : Bool) (a2 : Int) (a3 : Bool) (r1 : Int) (r2 : Int) (r3 : Int) (r4 : Int) (r5 : Int) (r6 : Bool) (r7 : Bool) (w : World) (h : span_closed.f k a0_0 a0_1 a0_2 a1_0 a1_1 a1_2 a2 a3 = some (r1, r2, r3, r4, r5, r6, r7)) :
  Calls Tryd.prog 62 #[.agg #[.int .i64 a0_0, .int .i64 a0_1, .bool a0_2], .agg #[.int .i64 a1_0, .int .i64 a1_1, .bool a1_2], .int .i64 a2, .bool a3] w fun e w' => e = .returned (.agg #[.int .i64 r1, .int .i64 r2, .int .i64 r3, .int .i64 r4, .int .i64 r5, .bool r6, .bool r7]) ∧ Below w.heap.size w w' := by
 have hu69 := Tryd.underlying69; have hu25 := Tryd.underlying25; have hu23 := Tryd.underlying23; have HB := Aside0.mk (Below.refl w.heap.size w); have H : ((span_end_number.f k a0_0 a0_1 a0_2 false).bind fun bt320 => ((span_end_number.f k a1_0 a1_1 a1_2 true).bind fun bt322 => (if a2 = 0 then (none) else ((ratio_Is.f k bt320.1 bt320.2).bind fun t325 => (if t325 = true then ((ratio_Is.f k bt322.1 bt322.2).bind fun t326 => (span_closed.j0 k a2 (!t326) bt320.1 bt320.2 bt322.1 bt322.2 a2 a3 false)) else (none)))))) = some (r1, r2, r3, r4, r5, r6, r7) := h; clear h; replace H := Option.bind_eq_some_iff.mp H; obtain ⟨⟨t320, t321⟩, A50, H⟩ := H; (try dsimp only at H); have A5 := Aside0.mk A50; clear A50; replace H := Option.bind_eq_some_iff.mp H; obtain ⟨⟨t322, t323⟩, A60, H⟩ := H; (try dsimp only at H); have A6 := Aside0.mk A60; clear A60; have HC7 := Aside0.mk H; clear H; go_enter Tryd.func62, Tryd.ntmps62; (try go_wp2_with (first | ((with_reducible refine gate_dst (N := 4) rfl ?_); refine box_event ?hg (N := 4) ?hd (cs := #[.int .i64 a0_0, .int .i64 a0_1, .bool a0_2]) (t := 69) ?hr ?_; (case hd => rfl); (case hg => rfl); (case hr => first | (go_simp; done) | (go_simp; rfl)); intro gb317 hg w8 hbox hb; have BK317 := Aside0.mk (hbox); have GW317 := hz_ hg HB; have GE317 := hz_ hg HB; replace HB := hs HB hb; clear hb hbox hg) | ((with_reducible refine gate_dst (N := 5) rfl ?_); refine box_event ?hg (N := 5) ?hd (cs := #[.int .i64 a1_0, .int .i64 a1_1, .bool a1_2]) (t := 69) ?hr ?_; (case hd => rfl); (case hg => rfl); (case hr => first | (go_simp; done) | (go_simp; rfl)); intro gb318 hg w9 hbox hb; have BK318 := Aside0.mk (hbox); have GW318 := Aside0.mk ((by rw [hg]; exact (below_size (by repeat first | (with_reducible exact HB.out) | refine bl1 ?_ | (with_reducible refine bset ?_ ‹_›) | exact HB.out)) : w.heap.size ≤ gb318)); have GE318 := Aside0.mk ((by rw [hg]; exact (below_size (by repeat first | (with_reducible exact HB.out) | refine bl1 ?_ | (with_reducible refine bset ?_ ‹_›) | exact HB.out)) : w.heap.size ≤ gb318)); have NB317_318 := nlk hg BK317; have NB318_317 := ngk hg BK317; replace BK317 := kb BK317 hb; replace HB := Aside0.mk (below_step (by repeat first | (with_reducible exact HB.out) | refine bl1 ?_ | (with_reducible refine bset ?_ ‹_›) | exact HB.out) hb); clear hb hbox hg) | ((with_reducible refine gate_dst (N := 8) rfl ?_); refine box_event ?hg (N := 8) ?hd (cs := #[.int .i64 0, .int .i64 0, .int .i64 0, .int .i64 0, .int .i64 0, .bool false, .bool false]) (t := 25) ?hr ?_; (case hd => rfl); (case hg => rfl); (case hr => first | (go_simp; done) | (go_simp; rfl)); intro gb319 hg w10 hbox hb; have BK319 := Aside0.mk (hbox); have GW319 := Aside0.mk ((by rw [hg]; exact (below_size (by repeat first | (with_reducible exact HB.out) | refine bl1 ?_ | (with_reducible refine bset ?_ ‹_›) | exact HB.out)) : w.heap.size ≤ gb319)); have GE319 := Aside0.mk ((by rw [hg]; exact (below_size (by repeat first | (with_reducible exact HB.out) | refine bl1 ?_ | (with_reducible refine bset ?_ ‹_›) | exact HB.out)) : w.heap.size ≤ gb319)); have NB317_319 := nlk hg BK317; have NB319_317 := ngk hg BK317; have NB318_319 := nlk hg BK318; have NB319_318 := ngk hg BK318; replace BK317 := kb BK317 hb; replace BK318 := kb BK318 hb; replace HB := Aside0.mk (below_step (by repeat first | (with_reducible exact HB.out) | refine bl1 ?_ | (with_reducible refine bset ?_ ‹_›) | exact HB.out) hb); clear hb hbox hg))); replace BK317 := kd BK317; replace BK318 := kd BK318; replace BK319 := kd BK319; replace HB := Aside0.mk (below_drew1 HB.out); refine start_ (n := 9) (S := fun w' => w'.cell? ⟨gb317, 0, none⟩ = some (.int .i64 a0_0) ∧ w'.cell? ⟨gb317, 1, none⟩ = some (.int .i64 a0_1) ∧ w'.cell? ⟨gb317, 2, none⟩ = some (.bool a0_2) ∧ w'.cell? ⟨gb318, 0, none⟩ = some (.int .i64 a1_0) ∧ w'.cell? ⟨gb318, 1, none⟩ = some (.int .i64 a1_1) ∧ w'.cell? ⟨gb318, 2, none⟩ = some (.bool a1_2)) (ds := []) (bA 9 0) (by kernel_rfl) rfl rfl ⟨(blk_cell BK317.out 0).trans rfl, (blk_cell BK317.out 1).trans rfl, (blk_cell BK317.out 2).trans rfl, (blk_cell BK318.out 0).trans rfl, (blk_cell BK318.out 1).trans rfl, (blk_cell BK318.out 2).trans rfl⟩ (fun hHeld => ?_); refine with_tabW span_closed.tab1 span_closed.bits1 (fun HT_ HW_ => ?_); generalize w10.drew = w11 at BK317 BK318 BK319 HB hHeld ⊢; have hH0 := hHeld; have HBW := hbw w11; refine pure_ (i := 4) (N := some 19) (v := ?_) (a' := ?_) (bA 9 16) rfl rfl (any_of HT_.out (by kernel_rfl)) (fun _ _ _ h => h) (Or.inl ⟨by rfl, ?_⟩) ?_ ?_; rotate_left
 · intro w'; go_simp; with_reducible rfl
 rotate_left
 · simp only [ap]; rfl
 refine pure_ (i := 5) (N := some 20) (v := ?_) (a' := ?_) (bA 9 48) rfl rfl (any_of HT_.out (by kernel_rfl)) (fun _ _ _ h => h) (Or.inl ⟨by rfl, ?_⟩) ?_ ?_; rotate_left
 · intro w'; go_simp; with_reducible rfl
 rotate_left
 · simp only [ap]; rfl
 refine take_ (i := 0) (N := some 15) (v := ?_) (a' := ?_) (bA 9 49) rfl rfl (take_ofW HT_.out HW_.out (by kernel_rfl)) (fun _ _ _ h => h) (Or.inl ⟨by rfl, ?_⟩) hHeld ?_ ?_; rotate_left
 · rintro w' ⟨s0, s1, s2, s3, s4, s5⟩; go_simp; with_reducible rfl
 rotate_left
 · simp only [ap]; rfl
 refine take_ (i := 2) (N := some 17) (v := ?_) (a' := ?_) (bA 9 53) rfl rfl (take_ofW HT_.out HW_.out (by kernel_rfl)) (fun _ _ _ h => h) (Or.inl ⟨by rfl, ?_⟩) hHeld ?_ ?_; rotate_left
 · rintro w' ⟨s0, s1, s2, s3, s4, s5⟩; go_simp; with_reducible rfl
 rotate_left
 · simp only [ap]; rfl
 refine join_ (σ := Nat) 1 (bA 9 255) (fun s_ => [(16, .agg #[.int .i64 t320, .int .i64 t321]), (18, .agg #[.int .i64 t322, .int .i64 t323]), (9, .pointer (some ⟨s_, 0, none⟩)), (21, .agg #[.int .i64 t320, .int .i64 t321, .int .i64 t322, .int .i64 t323, .int .i64 a2, .bool a3, .bool false])]) (fun s_ w' => Aside0 (Below w11.heap.size w11 w') ∧ Aside0 (w'.heap[s_]? = some (.cells #[.int .i64 0, .int .i64 0, .int .i64 0, .int .i64 0, .int .i64 0, .bool false, .bool false] 25 (0, 0))) ∧ Aside0 (w11.heap.size ≤ s_)) ?_ ?_; rotate_left
 ·
  intro hCont; refine two_ (i := 1) (j := 7) (Ni := some 16) (Nj := some 9) (bA 9 55) (bA 9 181) rfl rfl rfl rfl (two_of HT_.out (by kernel_rfl)) (by decide) (by decide) (fun K hK => ?_) (fun K hK => ?_)
  ·
   refine goes_ Tryd.func76 (by kernel_rfl) rfl #[.agg #[.int .i64 a0_0, .int .i64 a0_1, .bool a0_2], .bool false] (by rfl) rfl rfl (by (try simp only [mp]); first | done | rfl | (simp only [ld]; rfl)) ?_; (with_reducible refine (span_end_number.calls k a0_0 a0_1 a0_2 false t320 t321 _ A5.out).mono ?_); rintro e w12 ⟨rfl, hb⟩; refine ⟨_, rfl, ?_⟩; replace HBW := hs HBW hb; clear hb; refine hK.out _ _ (hs6 HBW.out hH0) (fun hHeld => ?_); clear hK K; refine norm_ (a' := ?_) ?_ ?_; rotate_left
   · (show Act.put _ (some 16) _ = _); simp only [ap]; rfl
   refine two_ (i := 3) (j := 7) (Ni := some 18) (Nj := some 9) (bA 9 63) (bA 9 183) rfl rfl rfl rfl (two_of HT_.out (by kernel_rfl)) (by decide) (by decide) (fun K hK => ?_) (fun K hK => ?_)
   ·
    refine goes_ Tryd.func76 (by kernel_rfl) rfl #[.agg #[.int .i64 a1_0, .int .i64 a1_1, .bool a1_2], .bool true] (by rfl) rfl rfl (by (try simp only [mp]); first | done | rfl | (simp only [ld]; rfl)) ?_; (with_reducible refine (span_end_number.calls k a1_0 a1_1 a1_2 true t322 t323 _ A6.out).mono ?_); rintro e w13 ⟨rfl, hb⟩; refine ⟨_, rfl, ?_⟩; replace HBW := hs HBW hb; clear hb; refine hK.out _ _ (hs6 HBW.out hH0) (fun hHeld => ?_); clear hK K; refine norm_ (a' := ?_) ?_ ?_; rotate_left
    · (show Act.put _ (some 18) _ = _); simp only [ap]; rfl
    refine pure_ (i := 6) (N := some 21) (v := ?_) (a' := ?_) (bA 9 127) rfl rfl (any_of HT_.out (by kernel_rfl)) (fun _ _ _ h => h) (Or.inl ⟨by rfl, ?_⟩) ?_ ?_; rotate_left
    · intro w'; go_simp; with_reducible rfl
    rotate_left
    · simp only [ap]; rfl
    refine one_ (i := 7) (N := some 9) (bA 9 255) rfl rfl (one_of HT_.out (by kernel_rfl)) (by decide) (fun K hK => ?_); refine box_step ?hg (N := 9) ?hd (cs := #[.int .i64 0, .int .i64 0, .int .i64 0, .int .i64 0, .int .i64 0, .bool false, .bool false]) (t := 25) ?hr ?_; (case hd => rfl); (case hg => rfl); (case hr => first | (go_simp; done) | (go_simp; rfl)); intro gb324 hg w14 hbox hb; have BK324 := Aside0.mk hbox; have GX324 := hz_ hg HBW; replace HBW := hs HBW hb; clear hb hbox hg; refine hK.out _ _ (hs6 HBW.out hH0) (fun hHeld => ?_); clear hK K; refine norm_ (a' := ?_) ?_ ?_; rotate_left
    · (show Act.put _ (some 9) _ = _); simp only [ap]; rfl
    exact norm_ (by first | (simp only [putAll, ap]; done) | (simp only [putAll, ap]; rfl)) (hCont (gb324) _ ⟨⟨bl HBW.out⟩, ⟨bk BK324.out⟩, GX324⟩)
   ·
    refine box_step ?hg (N := 9) ?hd (cs := #[.int .i64 0, .int .i64 0, .int .i64 0, .int .i64 0, .int .i64 0, .bool false, .bool false]) (t := 25) ?hr ?_; (case hd => rfl); (case hg => rfl); (case hr => first | (go_simp; done) | (go_simp; rfl)); intro gb324 hg w13 hbox hb; have BK324 := Aside0.mk hbox; have GX324 := hz_ hg HBW; replace HBW := hs HBW hb; clear hb hbox hg; refine hK.out _ _ (hs6 HBW.out hH0) (fun hHeld => ?_); clear hK K; refine norm_ (a' := ?_) ?_ ?_; rotate_left
    · (show Act.put _ (some 9) _ = _); simp only [ap]; rfl
    refine one_ (i := 3) (N := some 18) (bA 9 191) rfl rfl (one_of HT_.out (by kernel_rfl)) (by decide) (fun K hK => ?_); refine goes_ Tryd.func76 (by kernel_rfl) rfl #[.agg #[.int .i64 a1_0, .int .i64 a1_1, .bool a1_2], .bool true] (by rfl) rfl rfl (by (try simp only [mp]); first | done | rfl | (simp only [ld]; rfl)) ?_; (with_reducible refine (span_end_number.calls k a1_0 a1_1 a1_2 true t322 t323 _ A6.out).mono ?_); rintro e w14 ⟨rfl, hb⟩; refine ⟨_, rfl, ?_⟩; replace BK324 := kb BK324 hb; replace HBW := hs HBW hb; clear hb; refine hK.out _ _ (hs6 HBW.out hH0) (fun hHeld => ?_); clear hK K; refine norm_ (a' := ?_) ?_ ?_; rotate_left
    · (show Act.put _ (some 18) _ = _); simp only [ap]; rfl
    refine pure_ (i := 6) (N := some 21) (v := ?_) (a' := ?_) (bA 9 255) rfl rfl (any_of HT_.out (by kernel_rfl)) (fun _ _ _ h => h) (Or.inl ⟨by rfl, ?_⟩) ?_ ?_; rotate_left
    · intro w'; go_simp; with_reducible rfl
    rotate_left
    · simp only [ap]; rfl
    exact norm_ (by first | (simp only [putAll, ap]; done) | (simp only [putAll, ap]; rfl)) (hCont (gb324) _ ⟨⟨bl HBW.out⟩, ⟨bk BK324.out⟩, GX324⟩)
  ·
   refine box_step ?hg (N := 9) ?hd (cs := #[.int .i64 0, .int .i64 0, .int .i64 0, .int .i64 0, .int .i64 0, .bool false, .bool false]) (t := 25) ?hr ?_; (case hd => rfl); (case hg => rfl); (case hr => first | (go_simp; done) | (go_simp; rfl)); intro gb324 hg w12 hbox hb; have BK324 := Aside0.mk hbox; have GX324 := hz_ hg HBW; replace HBW := hs HBW hb; clear hb hbox hg; refine hK.out _ _ (hs6 HBW.out hH0) (fun hHeld => ?_); clear hK K; refine norm_ (a' := ?_) ?_ ?_; rotate_left
   · (show Act.put _ (some 9) _ = _); simp only [ap]; rfl
   refine one_ (i := 1) (N := some 16) (bA 9 183) rfl rfl (one_of HT_.out (by kernel_rfl)) (by decide) (fun K hK => ?_); refine goes_ Tryd.func76 (by kernel_rfl) rfl #[.agg #[.int .i64 a0_0, .int .i64 a0_1, .bool a0_2], .bool false] (by rfl) rfl rfl (by (try simp only [mp]); first | done | rfl | (simp only [ld]; rfl)) ?_; (with_reducible refine (span_end_number.calls k a0_0 a0_1 a0_2 false t320 t321 _ A5.out).mono ?_); rintro e w13 ⟨rfl, hb⟩; refine ⟨_, rfl, ?_⟩; replace BK324 := kb BK324 hb; replace HBW := hs HBW hb; clear hb; refine hK.out _ _ (hs6 HBW.out hH0) (fun hHeld => ?_); clear hK K; refine norm_ (a' := ?_) ?_ ?_; rotate_left
   · (show Act.put _ (some 16) _ = _); simp only [ap]; rfl
   refine one_ (i := 3) (N := some 18) (bA 9 191) rfl rfl (one_of HT_.out (by kernel_rfl)) (by decide) (fun K hK => ?_); refine goes_ Tryd.func76 (by kernel_rfl) rfl #[.agg #[.int .i64 a1_0, .int .i64 a1_1, .bool a1_2], .bool true] (by rfl) rfl rfl (by (try simp only [mp]); first | done | rfl | (simp only [ld]; rfl)) ?_; (with_reducible refine (span_end_number.calls k a1_0 a1_1 a1_2 true t322 t323 _ A6.out).mono ?_); rintro e w14 ⟨rfl, hb⟩; refine ⟨_, rfl, ?_⟩; replace BK324 := kb BK324 hb; replace HBW := hs HBW hb; clear hb; refine hK.out _ _ (hs6 HBW.out hH0) (fun hHeld => ?_); clear hK K; refine norm_ (a' := ?_) ?_ ?_; rotate_left
   · (show Act.put _ (some 18) _ = _); simp only [ap]; rfl
   refine pure_ (i := 6) (N := some 21) (v := ?_) (a' := ?_) (bA 9 255) rfl rfl (any_of HT_.out (by kernel_rfl)) (fun _ _ _ h => h) (Or.inl ⟨by rfl, ?_⟩) ?_ ?_; rotate_left
   · intro w'; go_simp; with_reducible rfl
   rotate_left
   · simp only [ap]; rfl
   exact norm_ (by first | (simp only [putAll, ap]; done) | (simp only [putAll, ap]; rfl)) (hCont (gb324) _ ⟨⟨bl HBW.out⟩, ⟨bk BK324.out⟩, GX324⟩)
 clear HBW; rintro gb324 w15 ⟨HBW, BK324, GX324⟩; have hHeld := hs6 HBW.out hH0; refine norm_ (a' := ?_) ?_ ?_; rotate_left
 · simp only [putAll, Act.put, List.setIfInBounds_toArray, List.set_cons_zero, List.set_cons_succ]; rfl
 have GW324 := gx HB GX324; have GE324 := gx HB GX324; have NB317_324 := nlx GX324 BK317; have NB324_317 := ngx GX324 BK317; have NB318_324 := nlx GX324 BK318; have NB324_318 := ngx GX324 BK318; have NB319_324 := nlx GX324 BK319; have NB324_319 := ngx GX324 BK319; replace BK317 := kb BK317 HBW.out; replace BK318 := kb BK318 HBW.out; replace BK319 := kb BK319 HBW.out; replace HB := hs HB HBW.out; refine one_ (i := 8) (N := none) (bA 9 511) rfl rfl (one_of HT_.out (by kernel_rfl)) (by decide) (fun K hK => ?_); have hs16 : w15.cell? ⟨gb324, 0, none⟩ = some (.int .i64 0) := (blk_cell BK324.out 0).trans rfl; have hfs16 := blk_frozen BK324.out 0; have hns16_0 := NB317_324.out; have hns16_1 := NB318_324.out; have hns16_2 := NB319_324.out; have hms16_0 := NB324_317.out; have hms16_1 := NB324_318.out; have hms16_2 := NB324_319.out; have hs17 : w15.cell? ⟨gb324, 1, none⟩ = some (.int .i64 0) := (blk_cell BK324.out 1).trans rfl; have hfs17 := blk_frozen BK324.out 1; have hns17_0 := NB317_324.out; have hns17_1 := NB318_324.out; have hns17_2 := NB319_324.out; have hms17_0 := NB324_317.out; have hms17_1 := NB324_318.out; have hms17_2 := NB324_319.out; have hs18 : w15.cell? ⟨gb324, 2, none⟩ = some (.int .i64 0) := (blk_cell BK324.out 2).trans rfl; have hfs18 := blk_frozen BK324.out 2; have hns18_0 := NB317_324.out; have hns18_1 := NB318_324.out; have hns18_2 := NB319_324.out; have hms18_0 := NB324_317.out; have hms18_1 := NB324_318.out; have hms18_2 := NB324_319.out; have hs19 : w15.cell? ⟨gb324, 3, none⟩ = some (.int .i64 0) := (blk_cell BK324.out 3).trans rfl; have hfs19 := blk_frozen BK324.out 3; have hns19_0 := NB317_324.out; have hns19_1 := NB318_324.out; have hns19_2 := NB319_324.out; have hms19_0 := NB324_317.out; have hms19_1 := NB324_318.out; have hms19_2 := NB324_319.out; have hs20 : w15.cell? ⟨gb324, 4, none⟩ = some (.int .i64 0) := (blk_cell BK324.out 4).trans rfl; have hfs20 := blk_frozen BK324.out 4; have hns20_0 := NB317_324.out; have hns20_1 := NB318_324.out; have hns20_2 := NB319_324.out; have hms20_0 := NB324_317.out; have hms20_1 := NB324_318.out; have hms20_2 := NB324_319.out; have hs21 : w15.cell? ⟨gb324, 5, none⟩ = some (.bool false) := (blk_cell BK324.out 5).trans rfl; have hfs21 := blk_frozen BK324.out 5; have hns21_0 := NB317_324.out; have hns21_1 := NB318_324.out; have hns21_2 := NB319_324.out; have hms21_0 := NB324_317.out; have hms21_1 := NB324_318.out; have hms21_2 := NB324_319.out; have hs22 : w15.cell? ⟨gb324, 6, none⟩ = some (.bool false) := (blk_cell BK324.out 6).trans rfl; have hfs22 := blk_frozen BK324.out 6; have hns22_0 := NB317_324.out; have hns22_1 := NB318_324.out; have hns22_2 := NB319_324.out; have hms22_0 := NB324_317.out; have hms22_1 := NB324_318.out; have hms22_2 := NB324_319.out; refine skip_ (w1 := ?_) (by rfl) rfl ?_ ?_; rotate_left
 · go_simp; rfl
 refine hK.out _ _ (hs6 (bset (bset (bset (bset (bset (bset (bset HBW.out GX324) GX324) GX324) GX324) GX324) GX324) GX324) hH0) (fun hHeld => ?_); clear hK K; refine done_ (done_of HT_.out (by kernel_rfl)) ?_; clear HBW hH0 GX324; go_upto_region 2 with (fail)
 go_cut [35] (fun v35 wc => ∃ (kq : Nat) (x35_6 : Bool), v35 = .bool x35_6 ∧ Aside0 (span_closed.j0 kq a2 x35_6 t320 t321 t322 t323 a2 a3 false = some (r1, r2, r3, r4, r5, r6, r7)) ∧ Aside0 (kq ≤ k) ∧ Aside0 (wc.heap[gb317]? = some (.cells #[.int .i64 a0_0, .int .i64 a0_1, .bool a0_2] 69 (0, 0))) ∧ Aside0 (wc.heap[gb318]? = some (.cells #[.int .i64 a1_0, .int .i64 a1_1, .bool a1_2] 69 (0, 0))) ∧ Aside0 (wc.heap[gb319]? = some (.cells #[.int .i64 0, .int .i64 0, .int .i64 0, .int .i64 0, .int .i64 0, .bool false, .bool false] 25 (0, 0))) ∧ Aside0 (wc.heap[gb324]? = some (.cells #[.int .i64 t320, .int .i64 t321, .int .i64 t322, .int .i64 t323, .int .i64 a2, .bool a3, .bool false] 25 (0, 0))) ∧ Aside0 (Below w.heap.size w wc))
 case first =>
  have H := HC7.out; clear HC7; by_cases c23 : a2 = 0
  · rw [if_pos c23] at H; cases H
  ·
   rw [if_neg c23] at H; have c23b0 : (a2 == 0) = false := beq_eq_false_iff_ne.mpr c23; have c23b1 : (a2 != 0) = true := bne_iff_ne.mpr c23; (first | rw [c23b0] | (simp only [i64_w, i32_w]; rw [c23b0]) | skip); replace H := Option.bind_eq_some_iff.mp H; obtain ⟨t325, A240, H⟩ := H; (try dsimp only at H); have A24 := Aside0.mk A240; clear A240; by_cases c25 : t325 = true
   ·
    subst c25; rw [if_pos rfl] at H; replace H := Option.bind_eq_some_iff.mp H; obtain ⟨t326, A260, H⟩ := H; (try dsimp only at H); have A26 := Aside0.mk A260; clear A260; have H' := Aside0.mk H; clear H; have hnb27 := NB324_317.out; have hnc27 := NB317_324.out; have hnb28 := NB324_318.out; have hnc28 := NB318_324.out; have hnb29 := NB324_319.out; have hnc29 := NB319_324.out; obtain ⟨hcz30_0, hcz30_1, hcz30_2, hcz30_3, hcz30_4, hcz30_5, hcz30_6⟩ := bc7 BK324.out; obtain ⟨hfz30_0, hfz30_1, hfz30_2, hfz30_3, hfz30_4, hfz30_5, hfz30_6⟩ := bf7 BK324.out; go_wp2_with (first | (go_at_call 15; (with_reducible refine (ratio_Is.calls k t320 t321 true _ A24.out).mono ?_); rintro e w31 ⟨rfl, hb⟩; replace BK317 := Aside0.mk (blk_below (g := gb317) (o := .cells #[.int .i64 a0_0, .int .i64 a0_1, .bool a0_2] 69 (0, 0)) (by refine bk ?_; refine blk_far ?_ NB317_324.out _; refine bk ?_; refine blk_far ?_ NB317_324.out _; refine bk ?_; refine blk_far ?_ NB317_324.out _; refine bk ?_; refine blk_far ?_ NB317_324.out _; refine bk ?_; refine blk_far ?_ NB317_324.out _; refine bk ?_; refine blk_far ?_ NB317_324.out _; refine bk ?_; refine blk_far ?_ NB317_324.out _; refine bk ?_; exact BK317.out) hb); replace BK318 := Aside0.mk (blk_below (g := gb318) (o := .cells #[.int .i64 a1_0, .int .i64 a1_1, .bool a1_2] 69 (0, 0)) (by refine bk ?_; refine blk_far ?_ NB318_324.out _; refine bk ?_; refine blk_far ?_ NB318_324.out _; refine bk ?_; refine blk_far ?_ NB318_324.out _; refine bk ?_; refine blk_far ?_ NB318_324.out _; refine bk ?_; refine blk_far ?_ NB318_324.out _; refine bk ?_; refine blk_far ?_ NB318_324.out _; refine bk ?_; refine blk_far ?_ NB318_324.out _; refine bk ?_; exact BK318.out) hb); replace BK319 := Aside0.mk (blk_below (g := gb319) (o := .cells #[.int .i64 0, .int .i64 0, .int .i64 0, .int .i64 0, .int .i64 0, .bool false, .bool false] 25 (0, 0)) (by refine bk ?_; refine blk_far ?_ NB319_324.out _; refine bk ?_; refine blk_far ?_ NB319_324.out _; refine bk ?_; refine blk_far ?_ NB319_324.out _; refine bk ?_; refine blk_far ?_ NB319_324.out _; refine bk ?_; refine blk_far ?_ NB319_324.out _; refine bk ?_; refine blk_far ?_ NB319_324.out _; refine bk ?_; refine blk_far ?_ NB319_324.out _; refine bk ?_; exact BK319.out) hb); replace BK324 := Aside0.mk (blk_below (g := gb324) (o := .cells #[.int .i64 t320, .int .i64 t321, .int .i64 t322, .int .i64 t323, .int .i64 a2, .bool a3, .bool false] 25 (0, 0)) (by exact rq BK324.out (by rfl)) hb); replace HB := Aside0.mk (below_step (by repeat first | (with_reducible exact HB.out) | refine bl1 ?_ | (with_reducible refine bset ?_ ‹_›) | exact HB.out) hb); (try clear hb); (try clear hb2); (try clear hk); (try clear hi); obtain ⟨hcz32_0, hcz32_1, hcz32_2, hcz32_3, hcz32_4, hcz32_5, hcz32_6⟩ := bc7 BK324.out; obtain ⟨hfz32_0, hfz32_1, hfz32_2, hfz32_3, hfz32_4, hfz32_5, hfz32_6⟩ := bf7 BK324.out) | (go_at_call 15; (with_reducible refine (ratio_Is.calls k t322 t323 t326 _ A26.out).mono ?_); rintro e w33 ⟨rfl, hb⟩; replace BK317 := kb BK317 hb; replace BK318 := kb BK318 hb; replace BK319 := kb BK319 hb; replace BK324 := kb BK324 hb; replace HB := Aside0.mk (below_step (by repeat first | (with_reducible exact HB.out) | refine bl1 ?_ | (with_reducible refine bset ?_ ‹_›) | exact HB.out) hb); (try clear hb); (try clear hb2); (try clear hk); (try clear hi))); go_meet
    case rel => exact ⟨_, (!t326), (by first | rfl | (simp; done) | (simp [*]; done)), H', ⟨by first | omega | exact Nat.le_refl _⟩, ⟨by refine bk ?_; exact BK317.out⟩, ⟨by refine bk ?_; exact BK318.out⟩, ⟨by refine bk ?_; exact BK319.out⟩, ⟨by refine bk ?_; exact BK324.out⟩, ⟨by repeat first | (with_reducible exact HB.out) | (with_reducible refine bset ?_ ‹_›) | refine bl1 ?_ | exact HB.out⟩⟩
   · replace c25 := Bool.eq_false_iff.mpr c25; subst c25; rw [if_neg (show ¬ (false = true) by decide)] at H; cases H
 case rest =>
  clear HC7; (try clear c2); (try clear p2); (try clear c3); (try clear c6); (try clear c7); (try clear c23); (try clear c23b0); (try clear c23b1); (try clear c25); (try clear c27); (try clear c28); (try clear c29); (try clear c34); (try clear c35); (try clear c36); (try clear hcz30_0); (try clear hcz30_1); (try clear hcz30_2); (try clear hcz30_3); (try clear hcz30_4); (try clear hcz30_5); (try clear hcz30_6); (try clear hcz32_0); (try clear hcz32_1); (try clear hcz32_2); (try clear hcz32_3); (try clear hcz32_4); (try clear hcz32_5); (try clear hcz32_6); (try clear hcz37_0); (try clear hcz37_1); (try clear hcz37_2); (try clear hcz37_3); (try clear hcz37_4); (try clear hcz37_5); (try clear hcz37_6); (try clear hfz30_0); (try clear hfz30_1); (try clear hfz30_2); (try clear hfz30_3); (try clear hfz30_4); (try clear hfz30_5); (try clear hfz30_6); (try clear hfz32_0); (try clear hfz32_1); (try clear hfz32_2); (try clear hfz32_3); (try clear hfz32_4); (try clear hfz32_5); (try clear hfz32_6); (try clear hfz37_0); (try clear hfz37_1); (try clear hfz37_2); (try clear hfz37_3); (try clear hfz37_4); (try clear hfz37_5); (try clear hfz37_6); obtain ⟨kq, x35_6, rfl, HA, HJ6, BK317, BK318, BK319, BK324, HB⟩ := hcut; cases kq with
  | zero => exact absurd HA.out (by simp [span_closed.j0])
  | succ kj6 =>
   have H := HA.out; clear HA; simp only [span_closed.j0] at H; by_cases c39 : x35_6 = true
   · subst c39; rw [if_pos rfl] at H; cases H
   ·
    replace c39 := Bool.eq_false_iff.mpr c39; subst c39; rw [if_neg (show ¬ (false = true) by decide)] at H; replace H := Option.bind_eq_some_iff.mp H; obtain ⟨⟨t327, t328⟩, A470, H⟩ := H; (try dsimp only at H); have A47 := Aside0.mk A470; clear A470; replace H := Option.bind_eq_some_iff.mp H; obtain ⟨⟨t329, t330⟩, A480, H⟩ := H; (try dsimp only at H); have A48 := Aside0.mk A480; clear A480; replace H := Option.bind_eq_some_iff.mp H; obtain ⟨⟨t331, t332⟩, A490, H⟩ := H; (try dsimp only at H); have A49 := Aside0.mk A490; clear A490; replace H := Option.bind_eq_some_iff.mp H; obtain ⟨⟨t334, t335⟩, A500, H⟩ := H; (try dsimp only at H); have A50 := Aside0.mk A500; clear A500; replace H := Option.bind_eq_some_iff.mp H; obtain ⟨⟨t336, t337⟩, A510, H⟩ := H; (try dsimp only at H); have A51 := Aside0.mk A510; clear A510; by_cases c52 : t334 > t336
    · rw [if_pos c52] at H; cases H
    ·
     rw [if_neg c52] at H; have c52b0 : decide (t336 < t334) = false := decide_eq_false c52; clear c52; by_cases c73 : t334 = t336
     ·
      rw [if_pos c73] at H; have c73b0 : (t334 == t336) = true := beq_iff_eq.mpr c73; have c73b1 : (t334 != t336) = false := bne_eq_false_iff_eq.mpr c73; clear c73; by_cases c74 : t335 > t337
      · rw [if_pos c74] at H; cases H
      ·
       rw [if_neg c74] at H; have c74b0 : decide (t337 < t335) = false := decide_eq_false c74; clear c74; simp only [Option.some.injEq, Prod.mk.injEq] at H; obtain ⟨rfl, rfl, rfl, rfl, rfl, rfl, rfl⟩ := H; (try go_wp2); replace BK317 := kd BK317; replace BK318 := kd BK318; replace BK319 := kd BK319; replace BK324 := kd BK324; replace HB := Aside0.mk (below_drew1 HB.out); refine start_ (n := 9) (S := fun w' => w'.cell? ⟨gb324, 0, none⟩ = some (.int .i64 t320) ∧ w'.cell? ⟨gb324, 1, none⟩ = some (.int .i64 t321) ∧ w'.cell? ⟨gb324, 2, none⟩ = some (.int .i64 t322) ∧ w'.cell? ⟨gb324, 3, none⟩ = some (.int .i64 t323) ∧ w'.cell? ⟨gb324, 4, none⟩ = some (.int .i64 a2) ∧ w'.cell? ⟨gb324, 5, none⟩ = some (.bool a3) ∧ w'.cell? ⟨gb324, 6, none⟩ = some (.bool false)) (ds := []) (bA 9 0) (by kernel_rfl) rfl rfl ⟨(blk_cell BK324.out 0).trans rfl, (blk_cell BK324.out 1).trans rfl, (blk_cell BK324.out 2).trans rfl, (blk_cell BK324.out 3).trans rfl, (blk_cell BK324.out 4).trans rfl, (blk_cell BK324.out 5).trans rfl, (blk_cell BK324.out 6).trans rfl⟩ (fun hHeld => ?_); refine with_tabW span_closed.tab5 span_closed.bits5 (fun HT_ HW_ => ?_); generalize wc.drew = w95 at BK317 BK318 BK319 BK324 HB hHeld ⊢; have hH0 := hHeld; have HBW := hbw w95; refine pure_ (i := 0) (N := some 38) (v := ?_) (a' := ?_) (bA 9 1) rfl rfl (any_of HT_.out (by kernel_rfl)) (fun _ _ _ h => h) (Or.inl ⟨by rfl, ?_⟩) ?_ ?_; rotate_left
       · intro w'; go_simp; with_reducible rfl
       rotate_left
       · simp only [ap]; rfl
       refine pure_ (i := 3) (N := some 41) (v := ?_) (a' := ?_) (bA 9 9) rfl rfl (any_of HT_.out (by kernel_rfl)) (fun _ _ _ h => h) (Or.inl ⟨by rfl, ?_⟩) ?_ ?_; rotate_left
       · intro w'; go_simp; with_reducible rfl
       rotate_left
       · simp only [ap]; rfl
       refine take_ (i := 1) (N := some 39) (v := ?_) (a' := ?_) (bA 9 11) rfl rfl (take_ofW HT_.out HW_.out (by kernel_rfl)) (fun _ _ _ h => h) (Or.inl ⟨by rfl, ?_⟩) hHeld ?_ ?_; rotate_left
       · rintro w' ⟨s0, s1, s2, s3, s4, s5, s6⟩; go_simp; with_reducible rfl
       rotate_left
       · simp only [ap]; rfl
       refine take_ (i := 4) (N := some 42) (v := ?_) (a' := ?_) (bA 9 27) rfl rfl (take_ofW HT_.out HW_.out (by kernel_rfl)) (fun _ _ _ h => h) (Or.inl ⟨by rfl, ?_⟩) hHeld ?_ ?_; rotate_left
       · rintro w' ⟨s0, s1, s2, s3, s4, s5, s6⟩; go_simp; with_reducible rfl
       rotate_left
       · simp only [ap]; rfl
       refine join_ (σ := Nat) 1 (bA 9 255) (fun s_ => [(40, .agg #[.int .i64 t327, .int .i64 t328]), (43, .agg #[.int .i64 t329, .int .i64 t330]), (44, .agg #[.int .i64 t331, .int .i64 t332]), (10, .pointer (some ⟨s_, 0, none⟩))]) (fun s_ w' => Aside0 (Below w95.heap.size w95 w') ∧ Aside0 (w'.heap[s_]? = some (.cells #[.int .i64 0, .int .i64 0] 23 (0, 0))) ∧ Aside0 (w95.heap.size ≤ s_)) ?_ ?_; rotate_left
       ·
        intro hCont; refine two_ (i := 2) (j := 7) (Ni := some 40) (Nj := some 10) (bA 9 31) (bA 9 155) rfl rfl rfl rfl (two_of HT_.out (by kernel_rfl)) (by decide) (by decide) (fun K hK => ?_) (fun K hK => ?_)
        ·
         refine goes_ Tryd.func71 (by kernel_rfl) rfl #[.agg #[.int .i64 t320, .int .i64 t321]] (by rfl) rfl rfl (by (try simp only [mp]); first | done | rfl | (simp only [ld]; rfl)) ?_; (with_reducible refine (ratio_Abs.calls kj6 t320 t321 t327 t328 _ A47.out).mono ?_); rintro e w96 ⟨rfl, hb⟩; refine ⟨_, rfl, ?_⟩; replace HBW := hs HBW hb; clear hb; refine hK.out _ _ (hs7 HBW.out hH0) (fun hHeld => ?_); clear hK K; refine norm_ (a' := ?_) ?_ ?_; rotate_left
         · (show Act.put _ (some 40) _ = _); simp only [ap]; rfl
         refine two_ (i := 5) (j := 7) (Ni := some 43) (Nj := some 10) (bA 9 63) (bA 9 159) rfl rfl rfl rfl (two_of HT_.out (by kernel_rfl)) (by decide) (by decide) (fun K hK => ?_) (fun K hK => ?_)
         ·
          refine goes_ Tryd.func71 (by kernel_rfl) rfl #[.agg #[.int .i64 t322, .int .i64 t323]] (by rfl) rfl rfl (by (try simp only [mp]); first | done | rfl | (simp only [ld]; rfl)) ?_; (with_reducible refine (ratio_Abs.calls kj6 t322 t323 t329 t330 _ A48.out).mono ?_); rintro e w97 ⟨rfl, hb⟩; refine ⟨_, rfl, ?_⟩; replace HBW := hs HBW hb; clear hb; refine hK.out _ _ (hs7 HBW.out hH0) (fun hHeld => ?_); clear hK K; refine norm_ (a' := ?_) ?_ ?_; rotate_left
          · (show Act.put _ (some 43) _ = _); simp only [ap]; rfl
          refine two_ (i := 6) (j := 7) (Ni := some 44) (Nj := some 10) (bA 9 127) (bA 9 191) rfl rfl rfl rfl (two_of HT_.out (by kernel_rfl)) (by decide) (by decide) (fun K hK => ?_) (fun K hK => ?_)
          ·
           refine goes_ Tryd.func27 (by kernel_rfl) rfl #[.agg #[.int .i64 t327, .int .i64 t328], .agg #[.int .i64 t329, .int .i64 t330]] (by rfl) rfl rfl (by (try simp only [mp]); first | done | rfl | (simp only [ld]; rfl)) ?_; (with_reducible refine (ratio_Max.calls kj6 t327 t328 t329 t330 t331 t332 _ A49.out).mono ?_); rintro e w98 ⟨rfl, hb⟩; refine ⟨_, rfl, ?_⟩; replace HBW := hs HBW hb; clear hb; refine hK.out _ _ (hs7 HBW.out hH0) (fun hHeld => ?_); clear hK K; refine norm_ (a' := ?_) ?_ ?_; rotate_left
           · (show Act.put _ (some 44) _ = _); simp only [ap]; rfl
           refine one_ (i := 7) (N := some 10) (bA 9 255) rfl rfl (one_of HT_.out (by kernel_rfl)) (by decide) (fun K hK => ?_); refine box_step ?hg (N := 10) ?hd (cs := #[.int .i64 0, .int .i64 0]) (t := 23) ?hr ?_; (case hd => rfl); (case hg => rfl); (case hr => first | (go_simp; done) | (go_simp; rfl)); intro gb333 hg w99 hbox hb; have BK333 := Aside0.mk hbox; have GX333 := hz_ hg HBW; replace HBW := hs HBW hb; clear hb hbox hg; refine hK.out _ _ (hs7 HBW.out hH0) (fun hHeld => ?_); clear hK K; refine norm_ (a' := ?_) ?_ ?_; rotate_left
           · (show Act.put _ (some 10) _ = _); simp only [ap]; rfl
           exact norm_ (by first | (simp only [putAll, ap]; done) | (simp only [putAll, ap]; rfl)) (hCont (gb333) _ ⟨⟨bl HBW.out⟩, ⟨bk BK333.out⟩, GX333⟩)
          ·
           refine box_step ?hg (N := 10) ?hd (cs := #[.int .i64 0, .int .i64 0]) (t := 23) ?hr ?_; (case hd => rfl); (case hg => rfl); (case hr => first | (go_simp; done) | (go_simp; rfl)); intro gb333 hg w98 hbox hb; have BK333 := Aside0.mk hbox; have GX333 := hz_ hg HBW; replace HBW := hs HBW hb; clear hb hbox hg; refine hK.out _ _ (hs7 HBW.out hH0) (fun hHeld => ?_); clear hK K; refine norm_ (a' := ?_) ?_ ?_; rotate_left
           · (show Act.put _ (some 10) _ = _); simp only [ap]; rfl
           refine one_ (i := 6) (N := some 44) (bA 9 255) rfl rfl (one_of HT_.out (by kernel_rfl)) (by decide) (fun K hK => ?_); refine goes_ Tryd.func27 (by kernel_rfl) rfl #[.agg #[.int .i64 t327, .int .i64 t328], .agg #[.int .i64 t329, .int .i64 t330]] (by rfl) rfl rfl (by (try simp only [mp]); first | done | rfl | (simp only [ld]; rfl)) ?_; (with_reducible refine (ratio_Max.calls kj6 t327 t328 t329 t330 t331 t332 _ A49.out).mono ?_); rintro e w99 ⟨rfl, hb⟩; refine ⟨_, rfl, ?_⟩; replace BK333 := kb BK333 hb; replace HBW := hs HBW hb; clear hb; refine hK.out _ _ (hs7 HBW.out hH0) (fun hHeld => ?_); clear hK K; refine norm_ (a' := ?_) ?_ ?_; rotate_left
           · (show Act.put _ (some 44) _ = _); simp only [ap]; rfl
           exact norm_ (by first | (simp only [putAll, ap]; done) | (simp only [putAll, ap]; rfl)) (hCont (gb333) _ ⟨⟨bl HBW.out⟩, ⟨bk BK333.out⟩, GX333⟩)
         ·
          refine box_step ?hg (N := 10) ?hd (cs := #[.int .i64 0, .int .i64 0]) (t := 23) ?hr ?_; (case hd => rfl); (case hg => rfl); (case hr => first | (go_simp; done) | (go_simp; rfl)); intro gb333 hg w97 hbox hb; have BK333 := Aside0.mk hbox; have GX333 := hz_ hg HBW; replace HBW := hs HBW hb; clear hb hbox hg; refine hK.out _ _ (hs7 HBW.out hH0) (fun hHeld => ?_); clear hK K; refine norm_ (a' := ?_) ?_ ?_; rotate_left
          · (show Act.put _ (some 10) _ = _); simp only [ap]; rfl
          refine one_ (i := 5) (N := some 43) (bA 9 191) rfl rfl (one_of HT_.out (by kernel_rfl)) (by decide) (fun K hK => ?_); refine goes_ Tryd.func71 (by kernel_rfl) rfl #[.agg #[.int .i64 t322, .int .i64 t323]] (by rfl) rfl rfl (by (try simp only [mp]); first | done | rfl | (simp only [ld]; rfl)) ?_; (with_reducible refine (ratio_Abs.calls kj6 t322 t323 t329 t330 _ A48.out).mono ?_); rintro e w98 ⟨rfl, hb⟩; refine ⟨_, rfl, ?_⟩; replace BK333 := kb BK333 hb; replace HBW := hs HBW hb; clear hb; refine hK.out _ _ (hs7 HBW.out hH0) (fun hHeld => ?_); clear hK K; refine norm_ (a' := ?_) ?_ ?_; rotate_left
          · (show Act.put _ (some 43) _ = _); simp only [ap]; rfl
          refine one_ (i := 6) (N := some 44) (bA 9 255) rfl rfl (one_of HT_.out (by kernel_rfl)) (by decide) (fun K hK => ?_); refine goes_ Tryd.func27 (by kernel_rfl) rfl #[.agg #[.int .i64 t327, .int .i64 t328], .agg #[.int .i64 t329, .int .i64 t330]] (by rfl) rfl rfl (by (try simp only [mp]); first | done | rfl | (simp only [ld]; rfl)) ?_; (with_reducible refine (ratio_Max.calls kj6 t327 t328 t329 t330 t331 t332 _ A49.out).mono ?_); rintro e w99 ⟨rfl, hb⟩; refine ⟨_, rfl, ?_⟩; replace BK333 := kb BK333 hb; replace HBW := hs HBW hb; clear hb; refine hK.out _ _ (hs7 HBW.out hH0) (fun hHeld => ?_); clear hK K; refine norm_ (a' := ?_) ?_ ?_; rotate_left
          · (show Act.put _ (some 44) _ = _); simp only [ap]; rfl
          exact norm_ (by first | (simp only [putAll, ap]; done) | (simp only [putAll, ap]; rfl)) (hCont (gb333) _ ⟨⟨bl HBW.out⟩, ⟨bk BK333.out⟩, GX333⟩)
        ·
         refine box_step ?hg (N := 10) ?hd (cs := #[.int .i64 0, .int .i64 0]) (t := 23) ?hr ?_; (case hd => rfl); (case hg => rfl); (case hr => first | (go_simp; done) | (go_simp; rfl)); intro gb333 hg w96 hbox hb; have BK333 := Aside0.mk hbox; have GX333 := hz_ hg HBW; replace HBW := hs HBW hb; clear hb hbox hg; refine hK.out _ _ (hs7 HBW.out hH0) (fun hHeld => ?_); clear hK K; refine norm_ (a' := ?_) ?_ ?_; rotate_left
         · (show Act.put _ (some 10) _ = _); simp only [ap]; rfl
         refine one_ (i := 2) (N := some 40) (bA 9 159) rfl rfl (one_of HT_.out (by kernel_rfl)) (by decide) (fun K hK => ?_); refine goes_ Tryd.func71 (by kernel_rfl) rfl #[.agg #[.int .i64 t320, .int .i64 t321]] (by rfl) rfl rfl (by (try simp only [mp]); first | done | rfl | (simp only [ld]; rfl)) ?_; (with_reducible refine (ratio_Abs.calls kj6 t320 t321 t327 t328 _ A47.out).mono ?_); rintro e w97 ⟨rfl, hb⟩; refine ⟨_, rfl, ?_⟩; replace BK333 := kb BK333 hb; replace HBW := hs HBW hb; clear hb; refine hK.out _ _ (hs7 HBW.out hH0) (fun hHeld => ?_); clear hK K; refine norm_ (a' := ?_) ?_ ?_; rotate_left
         · (show Act.put _ (some 40) _ = _); simp only [ap]; rfl
         refine one_ (i := 5) (N := some 43) (bA 9 191) rfl rfl (one_of HT_.out (by kernel_rfl)) (by decide) (fun K hK => ?_); refine goes_ Tryd.func71 (by kernel_rfl) rfl #[.agg #[.int .i64 t322, .int .i64 t323]] (by rfl) rfl rfl (by (try simp only [mp]); first | done | rfl | (simp only [ld]; rfl)) ?_; (with_reducible refine (ratio_Abs.calls kj6 t322 t323 t329 t330 _ A48.out).mono ?_); rintro e w98 ⟨rfl, hb⟩; refine ⟨_, rfl, ?_⟩; replace BK333 := kb BK333 hb; replace HBW := hs HBW hb; clear hb; refine hK.out _ _ (hs7 HBW.out hH0) (fun hHeld => ?_); clear hK K; refine norm_ (a' := ?_) ?_ ?_; rotate_left
         · (show Act.put _ (some 43) _ = _); simp only [ap]; rfl
         refine one_ (i := 6) (N := some 44) (bA 9 255) rfl rfl (one_of HT_.out (by kernel_rfl)) (by decide) (fun K hK => ?_); refine goes_ Tryd.func27 (by kernel_rfl) rfl #[.agg #[.int .i64 t327, .int .i64 t328], .agg #[.int .i64 t329, .int .i64 t330]] (by rfl) rfl rfl (by (try simp only [mp]); first | done | rfl | (simp only [ld]; rfl)) ?_; (with_reducible refine (ratio_Max.calls kj6 t327 t328 t329 t330 t331 t332 _ A49.out).mono ?_); rintro e w99 ⟨rfl, hb⟩; refine ⟨_, rfl, ?_⟩; replace BK333 := kb BK333 hb; replace HBW := hs HBW hb; clear hb; refine hK.out _ _ (hs7 HBW.out hH0) (fun hHeld => ?_); clear hK K; refine norm_ (a' := ?_) ?_ ?_; rotate_left
         · (show Act.put _ (some 44) _ = _); simp only [ap]; rfl
         exact norm_ (by first | (simp only [putAll, ap]; done) | (simp only [putAll, ap]; rfl)) (hCont (gb333) _ ⟨⟨bl HBW.out⟩, ⟨bk BK333.out⟩, GX333⟩)
       clear HBW; rintro gb333 w100 ⟨HBW, BK333, GX333⟩; have hHeld := hs7 HBW.out hH0; refine norm_ (a' := ?_) ?_ ?_; rotate_left
       · simp only [putAll, Act.put, List.setIfInBounds_toArray, List.set_cons_zero, List.set_cons_succ]; rfl
       have GW333 := gx HB GX333; have GE333 := gx HB GX333; have NB317_333 := nlx GX333 BK317; have NB333_317 := ngx GX333 BK317; have NB318_333 := nlx GX333 BK318; have NB333_318 := ngx GX333 BK318; have NB319_333 := nlx GX333 BK319; have NB333_319 := ngx GX333 BK319; have NB324_333 := nlx GX333 BK324; have NB333_324 := ngx GX333 BK324; replace BK317 := kb BK317 HBW.out; replace BK318 := kb BK318 HBW.out; replace BK319 := kb BK319 HBW.out; replace BK324 := kb BK324 HBW.out; replace HB := hs HB HBW.out; refine one_ (i := 8) (N := none) (bA 9 511) rfl rfl (one_of HT_.out (by kernel_rfl)) (by decide) (fun K hK => ?_); have hs101 : w100.cell? ⟨gb333, 0, none⟩ = some (.int .i64 0) := (blk_cell BK333.out 0).trans rfl; have hfs101 := blk_frozen BK333.out 0; have hns101_0 := NB317_333.out; have hns101_1 := NB318_333.out; have hns101_2 := NB319_333.out; have hns101_3 := NB324_333.out; have hms101_0 := NB333_317.out; have hms101_1 := NB333_318.out; have hms101_2 := NB333_319.out; have hms101_3 := NB333_324.out; have hs102 : w100.cell? ⟨gb333, 1, none⟩ = some (.int .i64 0) := (blk_cell BK333.out 1).trans rfl; have hfs102 := blk_frozen BK333.out 1; have hns102_0 := NB317_333.out; have hns102_1 := NB318_333.out; have hns102_2 := NB319_333.out; have hns102_3 := NB324_333.out; have hms102_0 := NB333_317.out; have hms102_1 := NB333_318.out; have hms102_2 := NB333_319.out; have hms102_3 := NB333_324.out; refine skip_ (w1 := ?_) (by rfl) rfl ?_ ?_; rotate_left
       · go_simp; rfl
       refine hK.out _ _ (hs7 (bset (bset HBW.out GX333) GX333) hH0) (fun hHeld => ?_); clear hK K; refine done_ (done_of HT_.out (by kernel_rfl)) ?_; clear HBW hH0 GX333; have hnb103 := NB333_317.out; have hnc103 := NB317_333.out; have hnb104 := NB333_318.out; have hnc104 := NB318_333.out; have hnb105 := NB333_319.out; have hnc105 := NB319_333.out; have hnb106 := NB333_324.out; have hnc106 := NB324_333.out; obtain ⟨hcz107_0, hcz107_1⟩ := bc2 BK333.out; obtain ⟨hfz107_0, hfz107_1⟩ := bf2 BK333.out; (try go_wp2_with (first | ((with_reducible refine gate_callee (f := 77) rfl ?_); refine goesL_ (some 51) rfl rfl Tryd.func77 (by kernel_rfl) rfl #[.int .u64 (IntKind.u64.wrap (t331)), .int .u64 (IntKind.u64.wrap (a2))] rfl (by (try simp only [mp]); first | done | rfl | (simp only [ld]; rfl)) ?_; (with_reducible refine (bits_Mul64.calls (IntKind.u64.wrap (t331)) (IntKind.u64.wrap (a2)) t334 t335 _ A50.out).mono ?_); rintro e w' ⟨rfl, ⟨nd, rfl⟩⟩; refine ⟨_, rfl, ?_⟩) | ((with_reducible refine gate_callee (f := 77) rfl ?_); refine goesL_ (some 58) rfl rfl Tryd.func77 (by kernel_rfl) rfl #[.int .u64 1073741824, .int .u64 (IntKind.u64.wrap (t332))] rfl (by (try simp only [mp]); first | done | rfl | (simp only [ld]; rfl)) ?_; (with_reducible refine (bits_Mul64.calls 1073741824 (IntKind.u64.wrap (t332)) t336 t337 _ A51.out).mono ?_); rintro e w' ⟨rfl, ⟨nd, rfl⟩⟩; refine ⟨_, rfl, ?_⟩; have hnb108 := NB324_317.out; have hnc108 := NB317_324.out; have hnb109 := NB324_318.out; have hnc109 := NB318_324.out; have hnb110 := NB324_319.out; have hnc110 := NB319_324.out; obtain ⟨hcz111_0, hcz111_1, hcz111_2, hcz111_3, hcz111_4, hcz111_5, hcz111_6⟩ := bc7 BK324.out; obtain ⟨hfz111_0, hfz111_1, hfz111_2, hfz111_3, hfz111_4, hfz111_5, hfz111_6⟩ := bf7 BK324.out; have hnb112 := NB319_317.out; have hnc112 := NB317_319.out; have hnb113 := NB319_318.out; have hnc113 := NB318_319.out; obtain ⟨hcz114_0, hcz114_1, hcz114_2, hcz114_3, hcz114_4, hcz114_5, hcz114_6⟩ := bc7 BK319.out; obtain ⟨hfz114_0, hfz114_1, hfz114_2, hfz114_3, hfz114_4, hfz114_5, hfz114_6⟩ := bf7 BK319.out))); refine bodyPost_ret (results_cell_row rfl _ _ gb319 25 #[.int .i64 t320, .int .i64 t321, .int .i64 t322, .int .i64 t323, .int .i64 a2, .bool a3, .bool false] (0, 0) _ rfl (by refine bk ?_; refine blk_put (cs := #[.int .i64 t320, .int .i64 t321, .int .i64 t322, .int .i64 t323, .int .i64 a2, .bool a3, .bool false]) ?_ 6 _ rfl; refine bk ?_; refine blk_put (cs := #[.int .i64 t320, .int .i64 t321, .int .i64 t322, .int .i64 t323, .int .i64 a2, .bool false, .bool false]) ?_ 5 _ rfl; refine bk ?_; refine blk_put (cs := #[.int .i64 t320, .int .i64 t321, .int .i64 t322, .int .i64 t323, .int .i64 0, .bool false, .bool false]) ?_ 4 _ rfl; refine bk ?_; refine blk_put (cs := #[.int .i64 t320, .int .i64 t321, .int .i64 t322, .int .i64 0, .int .i64 0, .bool false, .bool false]) ?_ 3 _ rfl; refine bk ?_; refine blk_put (cs := #[.int .i64 t320, .int .i64 t321, .int .i64 0, .int .i64 0, .int .i64 0, .bool false, .bool false]) ?_ 2 _ rfl; refine bk ?_; refine blk_put (cs := #[.int .i64 t320, .int .i64 0, .int .i64 0, .int .i64 0, .int .i64 0, .bool false, .bool false]) ?_ 1 _ rfl; refine bk ?_; refine blk_put (cs := #[.int .i64 0, .int .i64 0, .int .i64 0, .int .i64 0, .int .i64 0, .bool false, .bool false]) ?_ 0 _ rfl; refine bk ?_; refine blk_far ?_ NB319_333.out _; refine bk ?_; refine blk_far ?_ NB319_333.out _; refine bk ?_; exact BK319.out) Tryd.underlying25 rfl (by kernel_rfl)) rfl ?_; exact ⟨by first | rfl | (simp [errW_none, errW_some] <;> rfl) | (simp [*, errW_none, errW_some] <;> rfl), by repeat first | (with_reducible exact HB.out) | (with_reducible refine bset ?_ ‹_›) | refine bl1 ?_ | exact HB.out⟩
     · rw [if_neg c73] at H; cases H
def span_plus.f (k : Nat) (a0_0 : Int) (a0_1 : Int) (a1_0 : Int) (a1_1 : Int) : Option (Int × Int × Bool) := (ratio_Is.f k a0_0 a0_1).bind fun t341 => (if t341 = true then ((ratio_Is.f k a1_0 a1_1).bind fun t342 => (if t342 = true then (some (wrap64 ((wrap64 (a0_0 * a1_1)) + (wrap64 (a1_0 * a0_1))), wrap64 (a0_1 * a1_1), false)) else (none))) else (none))
theorem span_plus.mono : ∀ a0 a1 a2 a3 k, LeO (span_plus.f k a0 a1 a2 a3) (span_plus.f (k + 1) a0 a1 a2 a3) := by
 intro a0 a1 a2 a3 k
 unfold span_plus.f
 repeat' first
   | (with_reducible exact ratio_Is.mono _ _ _)
   | (with_reducible exact LeO.refl _)
   | (with_reducible exact LeO.none _)
   | (with_reducible refine LeO.ite ?_ ?_)
   | (with_reducible refine LeO.bind ?_ (fun _ => ?_))
   | exact ratio_Is.mono _ _ _
   | exact LeO.none _
   | refine LeO.ite ?_ ?_
   | refine LeO.bind ?_ (fun _ => ?_)
set_option maxHeartbeats 8000000 in
set_option maxRecDepth 100000 in
theorem span_plus.calls (k : Nat) (a0_0 : Int) (a0_1 : Int) (a1_0 : Int) (a1_1 : Int) (r1 : Int) (r2 : Int) (r3 : Bool) (w : World) (h : span_plus.f k a0_0 a0_1 a1_0 a1_1 = some (r1, r2, r3)) :
  Calls Tryd.prog 74 #[.agg #[.int .i64 a0_0, .int .i64 a0_1], .agg #[.int .i64 a1_0, .int .i64 a1_1]] w fun e w' => e = .returned (.agg #[.int .i64 r1, .int .i64 r2, .bool r3]) ∧ Below w.heap.size w w' := by
 have hu23 := Tryd.underlying23; have hu69 := Tryd.underlying69; have HB := Aside0.mk (Below.refl w.heap.size w); have H : ((ratio_Is.f k a0_0 a0_1).bind fun t341 => (if t341 = true then ((ratio_Is.f k a1_0 a1_1).bind fun t342 => (if t342 = true then (some (wrap64 ((wrap64 (a0_0 * a1_1)) + (wrap64 (a1_0 * a0_1))), wrap64 (a0_1 * a1_1), false)) else (none))) else (none))) = some (r1, r2, r3) := h; clear h; replace H := Option.bind_eq_some_iff.mp H; obtain ⟨t341, A30, H⟩ := H; (try dsimp only at H); have A3 := Aside0.mk A30; clear A30; by_cases c4 : t341 = true
 ·
  subst c4; rw [if_pos rfl] at H; replace H := Option.bind_eq_some_iff.mp H; obtain ⟨t342, A50, H⟩ := H; (try dsimp only at H); have A5 := Aside0.mk A50; clear A50; by_cases c6 : t342 = true
  · subst c6; rw [if_pos rfl] at H; simp only [Option.some.injEq, Prod.mk.injEq] at H; obtain ⟨rfl, rfl, rfl⟩ := H; go_enter Tryd.func74, Tryd.ntmps74; go_wp2_with (first | ((with_reducible refine gate_dst (N := 2) rfl ?_); refine box_event ?hg (N := 2) ?hd (cs := #[.int .i64 a0_0, .int .i64 a0_1]) (t := 23) ?hr ?_; (case hd => rfl); (case hg => rfl); (case hr => first | (go_simp; done) | (go_simp; rfl)); intro gb338 hg w7 hbox hb; have BK338 := Aside0.mk (hbox); have GW338 := hz_ hg HB; have GE338 := hz_ hg HB; replace HB := hs HB hb; clear hb hbox hg) | ((with_reducible refine gate_dst (N := 3) rfl ?_); refine box_event ?hg (N := 3) ?hd (cs := #[.int .i64 a1_0, .int .i64 a1_1]) (t := 23) ?hr ?_; (case hd => rfl); (case hg => rfl); (case hr => first | (go_simp; done) | (go_simp; rfl)); intro gb339 hg w8 hbox hb; have BK339 := Aside0.mk (hbox); have GW339 := Aside0.mk ((by rw [hg]; exact (below_size (by repeat first | (with_reducible exact HB.out) | refine bl1 ?_ | (with_reducible refine bset ?_ ‹_›) | exact HB.out)) : w.heap.size ≤ gb339)); have GE339 := Aside0.mk ((by rw [hg]; exact (below_size (by repeat first | (with_reducible exact HB.out) | refine bl1 ?_ | (with_reducible refine bset ?_ ‹_›) | exact HB.out)) : w.heap.size ≤ gb339)); have NB338_339 := nlk hg BK338; have NB339_338 := ngk hg BK338; replace BK338 := kb BK338 hb; replace HB := Aside0.mk (below_step (by repeat first | (with_reducible exact HB.out) | refine bl1 ?_ | (with_reducible refine bset ?_ ‹_›) | exact HB.out) hb); clear hb hbox hg) | ((with_reducible refine gate_dst (N := 4) rfl ?_); refine box_event ?hg (N := 4) ?hd (cs := #[.int .i64 0, .int .i64 0, .bool false]) (t := 69) ?hr ?_; (case hd => rfl); (case hg => rfl); (case hr => first | (go_simp; done) | (go_simp; rfl)); intro gb340 hg w9 hbox hb; have BK340 := Aside0.mk (hbox); have GW340 := Aside0.mk ((by rw [hg]; exact (below_size (by repeat first | (with_reducible exact HB.out) | refine bl1 ?_ | (with_reducible refine bset ?_ ‹_›) | exact HB.out)) : w.heap.size ≤ gb340)); have GE340 := Aside0.mk ((by rw [hg]; exact (below_size (by repeat first | (with_reducible exact HB.out) | refine bl1 ?_ | (with_reducible refine bset ?_ ‹_›) | exact HB.out)) : w.heap.size ≤ gb340)); have NB338_340 := nlk hg BK338; have NB340_338 := ngk hg BK338; have NB339_340 := nlk hg BK339; have NB340_339 := ngk hg BK339; replace BK338 := kb BK338 hb; replace BK339 := kb BK339 hb; replace HB := Aside0.mk (below_step (by repeat first | (with_reducible exact HB.out) | refine bl1 ?_ | (with_reducible refine bset ?_ ‹_›) | exact HB.out) hb); clear hb hbox hg; have hnb10 := NB338_339.out; have hnc10 := NB339_338.out; have hnb11 := NB338_340.out; have hnc11 := NB340_338.out; obtain ⟨hcz12_0, hcz12_1⟩ := bc2 BK338.out; obtain ⟨hfz12_0, hfz12_1⟩ := bf2 BK338.out) | ((with_reducible refine gate_callee (f := 15) rfl ?_); refine goesL_ (some 6) rfl rfl Tryd.func15 (by kernel_rfl) rfl #[.agg #[.int .i64 a0_0, .int .i64 a0_1]] rfl (by (try simp only [mp]); first | done | rfl | (simp only [ld]; rfl)) ?_; (with_reducible refine (ratio_Is.calls k a0_0 a0_1 true _ A3.out).mono ?_); rintro e w13 ⟨rfl, hb⟩; refine ⟨_, rfl, ?_⟩; replace BK338 := kb BK338 hb; replace BK339 := kb BK339 hb; replace BK340 := kb BK340 hb; replace HB := Aside0.mk (below_step (by repeat first | (with_reducible exact HB.out) | refine bl1 ?_ | (with_reducible refine bset ?_ ‹_›) | exact HB.out) hb); (try clear hb); (try clear hb2); (try clear hk); (try clear hi); have hnb14 := NB339_340.out; have hnc14 := NB340_339.out; obtain ⟨hcz15_0, hcz15_1⟩ := bc2 BK339.out; obtain ⟨hfz15_0, hfz15_1⟩ := bf2 BK339.out) | (go_at_call 15; (with_reducible refine (ratio_Is.calls k a1_0 a1_1 true _ A5.out).mono ?_); rintro e w16 ⟨rfl, hb⟩; replace BK338 := kb BK338 hb; replace BK339 := kb BK339 hb; replace BK340 := kb BK340 hb; replace HB := Aside0.mk (below_step (by repeat first | (with_reducible exact HB.out) | refine bl1 ?_ | (with_reducible refine bset ?_ ‹_›) | exact HB.out) hb); (try clear hb); (try clear hb2); (try clear hk); (try clear hi); obtain ⟨hcz17_0, hcz17_1⟩ := bc2 BK338.out; obtain ⟨hfz17_0, hfz17_1⟩ := bf2 BK338.out; obtain ⟨hcz18_0, hcz18_1⟩ := bc2 BK339.out; obtain ⟨hfz18_0, hfz18_1⟩ := bf2 BK339.out; obtain ⟨hcz19_0, hcz19_1, hcz19_2⟩ := bc3 BK340.out; obtain ⟨hfz19_0, hfz19_1, hfz19_2⟩ := bf3 BK340.out)); refine bodyPost_ret (results_cell_row rfl _ _ gb340 69 #[.int .i64 (wrap64 ((wrap64 (a0_0 * a1_1)) + (wrap64 (a1_0 * a0_1)))), .int .i64 (wrap64 (a0_1 * a1_1)), .bool false] (0, 0) _ rfl (by exact rq BK340.out (by rfl)) Tryd.underlying69 rfl (by kernel_rfl)) rfl ?_; exact ⟨by first | rfl | (simp [errW_none, errW_some] <;> rfl) | (simp [*, errW_none, errW_some] <;> rfl), by repeat first | (with_reducible exact HB.out) | (with_reducible refine bset ?_ ‹_›) | refine bl1 ?_ | exact HB.out⟩
  · replace c6 := Bool.eq_false_iff.mpr c6; subst c6; rw [if_neg (show ¬ (false = true) by decide)] at H; cases H
 · replace c4 := Bool.eq_false_iff.mpr c4; subst c4; rw [if_neg (show ¬ (false = true) by decide)] at H; cases H
def span_sum.f (k : Nat) (a0_0 : Int) (a0_1 : Int) (a0_2 : Int) (a0_3 : Int) (a0_4 : Int) (a0_5 : Bool) (a0_6 : Bool) (a1_0 : Int) (a1_1 : Int) (a1_2 : Int) (a1_3 : Int) (a1_4 : Int) (a1_5 : Bool) (a1_6 : Bool) (a2 : Bool) : Option (Int × Int × Int × Int × Int × Bool × Bool) := (span_plus.f k a0_0 a0_1 a1_0 a1_1).bind fun bt346 => ((span_plus.f k a0_2 a0_3 a1_2 a1_3).bind fun bt349 => ((span_common.f k a0_4 a1_4).bind fun t352 => ((span_closed.f k bt346.1 bt346.2.1 bt346.2.2 bt349.1 bt349.2.1 bt349.2.2 t352 a2).bind fun bt353 => (some (bt353.1, bt353.2.1, bt353.2.2.1, bt353.2.2.2.1, bt353.2.2.2.2.1, bt353.2.2.2.2.2.1, bt353.2.2.2.2.2.2)))))
theorem span_sum.mono : ∀ a0 a1 a2 a3 a4 a5 a6 a7 a8 a9 a10 a11 a12 a13 a14 k, LeO (span_sum.f k a0 a1 a2 a3 a4 a5 a6 a7 a8 a9 a10 a11 a12 a13 a14) (span_sum.f (k + 1) a0 a1 a2 a3 a4 a5 a6 a7 a8 a9 a10 a11 a12 a13 a14) := by
 intro a0 a1 a2 a3 a4 a5 a6 a7 a8 a9 a10 a11 a12 a13 a14 k
 unfold span_sum.f
 repeat' first
   | (with_reducible exact span_closed.mono _ _ _ _ _ _ _ _ _)
   | (with_reducible exact span_common.mono _ _ _)
   | (with_reducible exact span_plus.mono _ _ _ _ _)
   | (with_reducible exact LeO.refl _)
   | (with_reducible exact LeO.none _)
   | (with_reducible refine LeO.ite ?_ ?_)
   | (with_reducible refine LeO.bind ?_ (fun _ => ?_))
   | exact span_closed.mono _ _ _ _ _ _ _ _ _
   | exact span_common.mono _ _ _
   | exact span_plus.mono _ _ _ _ _
   | exact LeO.none _
   | refine LeO.ite ?_ ?_
   | refine LeO.bind ?_ (fun _ => ?_)
def span_sum.T1 : Bool × List (List Nat × List Nat) := (true, [([], []), ([0], [0]), ([], []), ([2], [2]), ([1, 3], [1, 3]), ([], []), ([5], [5]), ([], []), ([7], [7]), ([6, 8, 4], [6, 8]), ([], []), ([10], [10]), ([], []), ([12], [12]), ([11, 13, 9], [11, 13]), ([], []), ([4, 9, 14, 15, 14], [4, 9, 14, 15]), ([16, 16, 0, 1, 2, 3, 4, 5, 6, 7, 8, 9, 10, 11, 12, 13, 14, 15, 16], [16])])
def span_sum.B1 : List Nat := [0, 1, 0, 4, 15, 0, 32, 0, 128, 511, 0, 1024, 0, 4096, 16383, 0, 65535, 131071]
theorem span_sum.tab1 : rtab .any (opsOf Tryd.f56 1) = span_sum.T1 := by kernel_rfl
theorem span_sum.bits1 : waitsOk span_sum.T1.2 span_sum.B1 = true := by kernel_rfl
set_option maxHeartbeats 8000000 in
set_option maxRecDepth 100000 in
theorem span_sum.calls (k : Nat) (a0_0 : Int) (a0_1 : Int) (a0_2 : Int) (a0_3 : Int) (a0_4 : Int) (a0_5 : Bool) (a0_6 : Bool) (a1_0 : Int) (a1_1 : Int) (a1_2 : Int) (a1_3 : Int) (a1_4 : Int) (a1_5 : Bool) (a1_6 : Bool) (a2 : Bool) (r1 : Int) (r2 : Int) (r3 : Int) (r4 : Int) (r5 : Int) (r6 : Bool) (r7 : Bool) (w : World) (h : span_sum.f k a0_0 a0_1 a0_2 a0_3 a0_4 a0_5 a0_6 a1_0 a1_1 a1_2 a1_3 a1_4 a1_5 a1_6 a2 = some (r1, r2, r3, r4, r5, r6, r7)) :
  Calls Tryd.prog 56 #[.agg #[.int .i64 a0_0, .int .i64 a0_1, .int .i64 a0_2, .int .i64 a0_3, .int .i64 a0_4, .bool a0_5, .bool a0_6], .agg #[.int .i64 a1_0, .int .i64 a1_1, .int .i64 a1_2, .int .i64 a1_3, .int .i64 a1_4, .bool a1_5, .bool a1_6], .bool a2] w fun e w' => e = .returned (.agg #[.int .i64 r1, .int .i64 r2, .int .i64 r3, .int .i64 r4, .int .i64 r5, .bool r6, .bool r7]) ∧ Below w.heap.size w w' := by
 have hu25 := Tryd.underlying25; have hu23 := Tryd.underlying23; have HB := Aside0.mk (Below.refl w.heap.size w); have H : ((span_plus.f k a0_0 a0_1 a1_0 a1_1).bind fun bt346 => ((span_plus.f k a0_2 a0_3 a1_2 a1_3).bind fun bt349 => ((span_common.f k a0_4 a1_4).bind fun t352 => ((span_closed.f k bt346.1 bt346.2.1 bt346.2.2 bt349.1 bt349.2.1 bt349.2.2 t352 a2).bind fun bt353 => (some (bt353.1, bt353.2.1, bt353.2.2.1, bt353.2.2.2.1, bt353.2.2.2.2.1, bt353.2.2.2.2.2.1, bt353.2.2.2.2.2.2)))))) = some (r1, r2, r3, r4, r5, r6, r7) := h; clear h; replace H := Option.bind_eq_some_iff.mp H; obtain ⟨⟨t346, t347, t348⟩, A40, H⟩ := H; (try dsimp only at H); have A4 := Aside0.mk A40; clear A40; replace H := Option.bind_eq_some_iff.mp H; obtain ⟨⟨t349, t350, t351⟩, A50, H⟩ := H; (try dsimp only at H); have A5 := Aside0.mk A50; clear A50; replace H := Option.bind_eq_some_iff.mp H; obtain ⟨t352, A60, H⟩ := H; (try dsimp only at H); have A6 := Aside0.mk A60; clear A60; replace H := Option.bind_eq_some_iff.mp H; obtain ⟨⟨t353, t354, t355, t356, t357, t358, t359⟩, A70, H⟩ := H; (try dsimp only at H); have A7 := Aside0.mk A70; clear A70; simp only [Option.some.injEq, Prod.mk.injEq] at H; obtain ⟨rfl, rfl, rfl, rfl, rfl, rfl, rfl⟩ := H; go_enter Tryd.func56, Tryd.ntmps56; (try go_wp2_with (first | ((with_reducible refine gate_dst (N := 3) rfl ?_); refine box_event ?hg (N := 3) ?hd (cs := #[.int .i64 a0_0, .int .i64 a0_1, .int .i64 a0_2, .int .i64 a0_3, .int .i64 a0_4, .bool a0_5, .bool a0_6]) (t := 25) ?hr ?_; (case hd => rfl); (case hg => rfl); (case hr => first | (go_simp; done) | (go_simp; rfl)); intro gb343 hg w8 hbox hb; have BK343 := Aside0.mk (hbox); have GW343 := hz_ hg HB; have GE343 := hz_ hg HB; replace HB := hs HB hb; clear hb hbox hg) | ((with_reducible refine gate_dst (N := 4) rfl ?_); refine box_event ?hg (N := 4) ?hd (cs := #[.int .i64 a1_0, .int .i64 a1_1, .int .i64 a1_2, .int .i64 a1_3, .int .i64 a1_4, .bool a1_5, .bool a1_6]) (t := 25) ?hr ?_; (case hd => rfl); (case hg => rfl); (case hr => first | (go_simp; done) | (go_simp; rfl)); intro gb344 hg w9 hbox hb; have BK344 := Aside0.mk (hbox); have GW344 := Aside0.mk ((by rw [hg]; exact (below_size (by repeat first | (with_reducible exact HB.out) | refine bl1 ?_ | (with_reducible refine bset ?_ ‹_›) | exact HB.out)) : w.heap.size ≤ gb344)); have GE344 := Aside0.mk ((by rw [hg]; exact (below_size (by repeat first | (with_reducible exact HB.out) | refine bl1 ?_ | (with_reducible refine bset ?_ ‹_›) | exact HB.out)) : w.heap.size ≤ gb344)); have NB343_344 := nlk hg BK343; have NB344_343 := ngk hg BK343; replace BK343 := kb BK343 hb; replace HB := Aside0.mk (below_step (by repeat first | (with_reducible exact HB.out) | refine bl1 ?_ | (with_reducible refine bset ?_ ‹_›) | exact HB.out) hb); clear hb hbox hg) | ((with_reducible refine gate_dst (N := 6) rfl ?_); refine box_event ?hg (N := 6) ?hd (cs := #[.int .i64 0, .int .i64 0, .int .i64 0, .int .i64 0, .int .i64 0, .bool false, .bool false]) (t := 25) ?hr ?_; (case hd => rfl); (case hg => rfl); (case hr => first | (go_simp; done) | (go_simp; rfl)); intro gb345 hg w10 hbox hb; have BK345 := Aside0.mk (hbox); have GW345 := Aside0.mk ((by rw [hg]; exact (below_size (by repeat first | (with_reducible exact HB.out) | refine bl1 ?_ | (with_reducible refine bset ?_ ‹_›) | exact HB.out)) : w.heap.size ≤ gb345)); have GE345 := Aside0.mk ((by rw [hg]; exact (below_size (by repeat first | (with_reducible exact HB.out) | refine bl1 ?_ | (with_reducible refine bset ?_ ‹_›) | exact HB.out)) : w.heap.size ≤ gb345)); have NB343_345 := nlk hg BK343; have NB345_343 := ngk hg BK343; have NB344_345 := nlk hg BK344; have NB345_344 := ngk hg BK344; replace BK343 := kb BK343 hb; replace BK344 := kb BK344 hb; replace HB := Aside0.mk (below_step (by repeat first | (with_reducible exact HB.out) | refine bl1 ?_ | (with_reducible refine bset ?_ ‹_›) | exact HB.out) hb); clear hb hbox hg))); replace BK343 := kd BK343; replace BK344 := kd BK344; replace BK345 := kd BK345; replace HB := Aside0.mk (below_drew1 HB.out); refine start_ (n := 18) (S := fun w' => w'.cell? ⟨gb343, 0, none⟩ = some (.int .i64 a0_0) ∧ w'.cell? ⟨gb343, 1, none⟩ = some (.int .i64 a0_1) ∧ w'.cell? ⟨gb343, 2, none⟩ = some (.int .i64 a0_2) ∧ w'.cell? ⟨gb343, 3, none⟩ = some (.int .i64 a0_3) ∧ w'.cell? ⟨gb343, 4, none⟩ = some (.int .i64 a0_4) ∧ w'.cell? ⟨gb343, 5, none⟩ = some (.bool a0_5) ∧ w'.cell? ⟨gb343, 6, none⟩ = some (.bool a0_6) ∧ w'.cell? ⟨gb344, 0, none⟩ = some (.int .i64 a1_0) ∧ w'.cell? ⟨gb344, 1, none⟩ = some (.int .i64 a1_1) ∧ w'.cell? ⟨gb344, 2, none⟩ = some (.int .i64 a1_2) ∧ w'.cell? ⟨gb344, 3, none⟩ = some (.int .i64 a1_3) ∧ w'.cell? ⟨gb344, 4, none⟩ = some (.int .i64 a1_4) ∧ w'.cell? ⟨gb344, 5, none⟩ = some (.bool a1_5) ∧ w'.cell? ⟨gb344, 6, none⟩ = some (.bool a1_6)) (ds := []) (bA 18 0) (by kernel_rfl) rfl rfl ⟨(blk_cell BK343.out 0).trans rfl, (blk_cell BK343.out 1).trans rfl, (blk_cell BK343.out 2).trans rfl, (blk_cell BK343.out 3).trans rfl, (blk_cell BK343.out 4).trans rfl, (blk_cell BK343.out 5).trans rfl, (blk_cell BK343.out 6).trans rfl, (blk_cell BK344.out 0).trans rfl, (blk_cell BK344.out 1).trans rfl, (blk_cell BK344.out 2).trans rfl, (blk_cell BK344.out 3).trans rfl, (blk_cell BK344.out 4).trans rfl, (blk_cell BK344.out 5).trans rfl, (blk_cell BK344.out 6).trans rfl⟩ (fun hHeld => ?_); refine with_tabW span_sum.tab1 span_sum.bits1 (fun HT_ HW_ => ?_); generalize w10.drew = w11 at BK343 BK344 BK345 HB hHeld ⊢; have hH0 := hHeld; have HBW := hbw w11; refine pure_ (i := 0) (N := some 7) (v := ?_) (a' := ?_) (bA 18 1) rfl rfl (any_of HT_.out (by kernel_rfl)) (fun _ _ _ h => h) (Or.inl ⟨by rfl, ?_⟩) ?_ ?_; rotate_left
 · intro w'; go_simp; with_reducible rfl
 rotate_left
 · simp only [ap]; rfl
 refine pure_ (i := 2) (N := some 9) (v := ?_) (a' := ?_) (bA 18 5) rfl rfl (any_of HT_.out (by kernel_rfl)) (fun _ _ _ h => h) (Or.inl ⟨by rfl, ?_⟩) ?_ ?_; rotate_left
 · intro w'; go_simp; with_reducible rfl
 rotate_left
 · simp only [ap]; rfl
 refine pure_ (i := 5) (N := some 12) (v := ?_) (a' := ?_) (bA 18 37) rfl rfl (any_of HT_.out (by kernel_rfl)) (fun _ _ _ h => h) (Or.inl ⟨by rfl, ?_⟩) ?_ ?_; rotate_left
 · intro w'; go_simp; with_reducible rfl
 rotate_left
 · simp only [ap]; rfl
 refine pure_ (i := 7) (N := some 14) (v := ?_) (a' := ?_) (bA 18 165) rfl rfl (any_of HT_.out (by kernel_rfl)) (fun _ _ _ h => h) (Or.inl ⟨by rfl, ?_⟩) ?_ ?_; rotate_left
 · intro w'; go_simp; with_reducible rfl
 rotate_left
 · simp only [ap]; rfl
 refine pure_ (i := 10) (N := some 17) (v := ?_) (a' := ?_) (bA 18 1189) rfl rfl (any_of HT_.out (by kernel_rfl)) (fun _ _ _ h => h) (Or.inl ⟨by rfl, ?_⟩) ?_ ?_; rotate_left
 · intro w'; go_simp; with_reducible rfl
 rotate_left
 · simp only [ap]; rfl
 refine pure_ (i := 12) (N := some 19) (v := ?_) (a' := ?_) (bA 18 5285) rfl rfl (any_of HT_.out (by kernel_rfl)) (fun _ _ _ h => h) (Or.inl ⟨by rfl, ?_⟩) ?_ ?_; rotate_left
 · intro w'; go_simp; with_reducible rfl
 rotate_left
 · simp only [ap]; rfl
 refine pure_ (i := 15) (N := some 22) (v := ?_) (a' := ?_) (bA 18 38053) rfl rfl (any_of HT_.out (by kernel_rfl)) (fun _ _ _ h => h) (Or.inl ⟨by rfl, ?_⟩) ?_ ?_; rotate_left
 · intro w'; go_simp; with_reducible rfl
 rotate_left
 · simp only [ap]; rfl
 refine take_ (i := 1) (N := some 8) (v := ?_) (a' := ?_) (bA 18 38055) rfl rfl (take_ofW HT_.out HW_.out (by kernel_rfl)) (fun _ _ _ h => h) (Or.inl ⟨by rfl, ?_⟩) hHeld ?_ ?_; rotate_left
 · rintro w' ⟨s0, s1, s2, s3, s4, s5, s6, s7, s8, s9, s10, s11, s12, s13⟩; go_simp; with_reducible rfl
 rotate_left
 · simp only [ap]; rfl
 refine take_ (i := 3) (N := some 10) (v := ?_) (a' := ?_) (bA 18 38063) rfl rfl (take_ofW HT_.out HW_.out (by kernel_rfl)) (fun _ _ _ h => h) (Or.inl ⟨by rfl, ?_⟩) hHeld ?_ ?_; rotate_left
 · rintro w' ⟨s0, s1, s2, s3, s4, s5, s6, s7, s8, s9, s10, s11, s12, s13⟩; go_simp; with_reducible rfl
 rotate_left
 · simp only [ap]; rfl
 refine take_ (i := 6) (N := some 13) (v := ?_) (a' := ?_) (bA 18 38127) rfl rfl (take_ofW HT_.out HW_.out (by kernel_rfl)) (fun _ _ _ h => h) (Or.inl ⟨by rfl, ?_⟩) hHeld ?_ ?_; rotate_left
 · rintro w' ⟨s0, s1, s2, s3, s4, s5, s6, s7, s8, s9, s10, s11, s12, s13⟩; go_simp; with_reducible rfl
 rotate_left
 · simp only [ap]; rfl
 refine take_ (i := 8) (N := some 15) (v := ?_) (a' := ?_) (bA 18 38383) rfl rfl (take_ofW HT_.out HW_.out (by kernel_rfl)) (fun _ _ _ h => h) (Or.inl ⟨by rfl, ?_⟩) hHeld ?_ ?_; rotate_left
 · rintro w' ⟨s0, s1, s2, s3, s4, s5, s6, s7, s8, s9, s10, s11, s12, s13⟩; go_simp; with_reducible rfl
 rotate_left
 · simp only [ap]; rfl
 refine take_ (i := 11) (N := some 18) (v := ?_) (a' := ?_) (bA 18 40431) rfl rfl (take_ofW HT_.out HW_.out (by kernel_rfl)) (fun _ _ _ h => h) (Or.inl ⟨by rfl, ?_⟩) hHeld ?_ ?_; rotate_left
 · rintro w' ⟨s0, s1, s2, s3, s4, s5, s6, s7, s8, s9, s10, s11, s12, s13⟩; go_simp; with_reducible rfl
 rotate_left
 · simp only [ap]; rfl
 refine take_ (i := 13) (N := some 20) (v := ?_) (a' := ?_) (bA 18 48623) rfl rfl (take_ofW HT_.out HW_.out (by kernel_rfl)) (fun _ _ _ h => h) (Or.inl ⟨by rfl, ?_⟩) hHeld ?_ ?_; rotate_left
 · rintro w' ⟨s0, s1, s2, s3, s4, s5, s6, s7, s8, s9, s10, s11, s12, s13⟩; go_simp; with_reducible rfl
 rotate_left
 · simp only [ap]; rfl
 refine one_ (i := 4) (N := some 11) (bA 18 48639) rfl rfl (one_of HT_.out (by kernel_rfl)) (by decide) (fun K hK => ?_); refine goes_ Tryd.func74 (by kernel_rfl) rfl #[.agg #[.int .i64 a0_0, .int .i64 a0_1], .agg #[.int .i64 a1_0, .int .i64 a1_1]] (by rfl) rfl rfl (by (try simp only [mp]); first | done | rfl | (simp only [ld]; rfl)) ?_; (with_reducible refine (span_plus.calls k a0_0 a0_1 a1_0 a1_1 t346 t347 t348 _ A4.out).mono ?_); rintro e w12 ⟨rfl, hb⟩; refine ⟨_, rfl, ?_⟩; replace HBW := hs HBW hb; clear hb; refine hK.out _ _ (hc8 HBW.out (hs6 HBW.out) hH0) (fun hHeld => ?_); clear hK K; refine norm_ (a' := ?_) ?_ ?_; rotate_left
 · (show Act.put _ (some 11) _ = _); simp only [ap]; rfl
 refine one_ (i := 9) (N := some 16) (bA 18 49151) rfl rfl (one_of HT_.out (by kernel_rfl)) (by decide) (fun K hK => ?_); refine goes_ Tryd.func74 (by kernel_rfl) rfl #[.agg #[.int .i64 a0_2, .int .i64 a0_3], .agg #[.int .i64 a1_2, .int .i64 a1_3]] (by rfl) rfl rfl (by (try simp only [mp]); first | done | rfl | (simp only [ld]; rfl)) ?_; (with_reducible refine (span_plus.calls k a0_2 a0_3 a1_2 a1_3 t349 t350 t351 _ A5.out).mono ?_); rintro e w13 ⟨rfl, hb⟩; refine ⟨_, rfl, ?_⟩; replace HBW := hs HBW hb; clear hb; refine hK.out _ _ (hc8 HBW.out (hs6 HBW.out) hH0) (fun hHeld => ?_); clear hK K; refine norm_ (a' := ?_) ?_ ?_; rotate_left
 · (show Act.put _ (some 16) _ = _); simp only [ap]; rfl
 refine one_ (i := 14) (N := some 21) (bA 18 65535) rfl rfl (one_of HT_.out (by kernel_rfl)) (by decide) (fun K hK => ?_); refine goes_ Tryd.func25 (by kernel_rfl) rfl #[.int .i64 a0_4, .int .i64 a1_4] (by rfl) rfl rfl (by (try simp only [mp]); first | done | rfl | (simp only [ld]; rfl)) ?_; (with_reducible refine (span_common.calls k a0_4 a1_4 t352 _ A6.out).mono ?_); rintro e w' ⟨rfl, ⟨nd, rfl⟩⟩; refine ⟨_, rfl, ?_⟩; refine hK.out _ _ (hc8 (bl HBW.out) (hs6 (bl HBW.out)) hH0) (fun hHeld => ?_); clear hK K; refine norm_ (a' := ?_) ?_ ?_; rotate_left
 · (show Act.put _ (some 21) _ = _); simp only [ap]; rfl
 refine one_ (i := 16) (N := some 23) (bA 18 131071) rfl rfl (one_of HT_.out (by kernel_rfl)) (by decide) (fun K hK => ?_); refine goes_ Tryd.func62 (by kernel_rfl) rfl #[.agg #[.int .i64 t346, .int .i64 t347, .bool t348], .agg #[.int .i64 t349, .int .i64 t350, .bool t351], .int .i64 t352, .bool a2] (by rfl) rfl rfl (by (try simp only [mp]); first | done | rfl | (simp only [ld]; rfl)) ?_; (with_reducible refine (span_closed.calls k t346 t347 t348 t349 t350 t351 t352 a2 t353 t354 t355 t356 t357 t358 t359 _ A7.out).mono ?_); rintro e w14 ⟨rfl, hb⟩; refine ⟨_, rfl, ?_⟩; replace HBW := hs HBW hb; clear hb; refine hK.out _ _ (hc8 HBW.out (hs6 HBW.out) hH0) (fun hHeld => ?_); clear hK K; refine norm_ (a' := ?_) ?_ ?_; rotate_left
 · (show Act.put _ (some 23) _ = _); simp only [ap]; rfl
 replace BK343 := kb BK343 HBW.out; replace BK344 := kb BK344 HBW.out; replace BK345 := kb BK345 HBW.out; replace HB := hs HB HBW.out; refine one_ (i := 17) (N := none) (bA 18 262143) rfl rfl (one_of HT_.out (by kernel_rfl)) (by decide) (fun K hK => ?_); have hs15 : w14.cell? ⟨gb345, 0, none⟩ = some (.int .i64 0) := (blk_cell BK345.out 0).trans rfl; have hfs15 := blk_frozen BK345.out 0; have hns15_0 := NB343_345.out; have hns15_1 := NB344_345.out; have hms15_0 := NB345_343.out; have hms15_1 := NB345_344.out; have hs16 : w14.cell? ⟨gb345, 1, none⟩ = some (.int .i64 0) := (blk_cell BK345.out 1).trans rfl; have hfs16 := blk_frozen BK345.out 1; have hns16_0 := NB343_345.out; have hns16_1 := NB344_345.out; have hms16_0 := NB345_343.out; have hms16_1 := NB345_344.out; have hs17 : w14.cell? ⟨gb345, 2, none⟩ = some (.int .i64 0) := (blk_cell BK345.out 2).trans rfl; have hfs17 := blk_frozen BK345.out 2; have hns17_0 := NB343_345.out; have hns17_1 := NB344_345.out; have hms17_0 := NB345_343.out; have hms17_1 := NB345_344.out; have hs18 : w14.cell? ⟨gb345, 3, none⟩ = some (.int .i64 0) := (blk_cell BK345.out 3).trans rfl; have hfs18 := blk_frozen BK345.out 3; have hns18_0 := NB343_345.out; have hns18_1 := NB344_345.out; have hms18_0 := NB345_343.out; have hms18_1 := NB345_344.out; have hs19 : w14.cell? ⟨gb345, 4, none⟩ = some (.int .i64 0) := (blk_cell BK345.out 4).trans rfl; have hfs19 := blk_frozen BK345.out 4; have hns19_0 := NB343_345.out; have hns19_1 := NB344_345.out; have hms19_0 := NB345_343.out; have hms19_1 := NB345_344.out; have hs20 : w14.cell? ⟨gb345, 5, none⟩ = some (.bool false) := (blk_cell BK345.out 5).trans rfl; have hfs20 := blk_frozen BK345.out 5; have hns20_0 := NB343_345.out; have hns20_1 := NB344_345.out; have hms20_0 := NB345_343.out; have hms20_1 := NB345_344.out; have hs21 : w14.cell? ⟨gb345, 6, none⟩ = some (.bool false) := (blk_cell BK345.out 6).trans rfl; have hfs21 := blk_frozen BK345.out 6; have hns21_0 := NB343_345.out; have hns21_1 := NB344_345.out; have hms21_0 := NB345_343.out; have hms21_1 := NB345_344.out; refine skip_ (w1 := ?_) (by rfl) rfl ?_ ?_; rotate_left
 · go_simp; rfl
 refine hK.out _ _ ⟨(cf7 NB343_345.out hHeld.1), (cf7 NB343_345.out hHeld.2.1), (cf7 NB343_345.out hHeld.2.2.1), (cf7 NB343_345.out hHeld.2.2.2.1), (cf7 NB343_345.out hHeld.2.2.2.2.1), (cf7 NB343_345.out hHeld.2.2.2.2.2.1), (cf7 NB343_345.out hHeld.2.2.2.2.2.2.1), (cf7 NB344_345.out hHeld.2.2.2.2.2.2.2.1), (cf7 NB344_345.out hHeld.2.2.2.2.2.2.2.2.1), (cf7 NB344_345.out hHeld.2.2.2.2.2.2.2.2.2.1), (cf7 NB344_345.out hHeld.2.2.2.2.2.2.2.2.2.2.1), (cf7 NB344_345.out hHeld.2.2.2.2.2.2.2.2.2.2.2.1), (cf7 NB344_345.out hHeld.2.2.2.2.2.2.2.2.2.2.2.2.1), (cf7 NB344_345.out hHeld.2.2.2.2.2.2.2.2.2.2.2.2.2)⟩ (fun hHeld => ?_); clear hK K; refine done_ (done_of HT_.out (by kernel_rfl)) ?_; clear HBW hH0; (try go_wp2); refine bodyPost_ret (results_cell_row rfl _ _ gb345 25 #[.int .i64 t353, .int .i64 t354, .int .i64 t355, .int .i64 t356, .int .i64 t357, .bool t358, .bool t359] (0, 0) _ rfl (by exact rq BK345.out (by rfl)) Tryd.underlying25 rfl (by kernel_rfl)) rfl ?_; exact ⟨by first | rfl | (simp [errW_none, errW_some] <;> rfl) | (simp [*, errW_none, errW_some] <;> rfl), by repeat first | (with_reducible exact HB.out) | (with_reducible refine bset ?_ ‹_›) | refine bl1 ?_ | exact HB.out⟩
def strconv_small.f (a0 : Int) : Option (ByteArray) := if a0 < 10 then (if 0 ≤ a0 then (if a0 ≤ (wrap64 (a0 + 1)) then (if (wrap64 (a0 + 1)) ≤ 36 then (some ((⟨#[48, 49, 50, 51, 52, 53, 54, 55, 56, 57, 97, 98, 99, 100, 101, 102, 103, 104, 105, 106, 107, 108, 109, 110, 111, 112, 113, 114, 115, 116, 117, 118, 119, 120, 121, 122]⟩ : ByteArray).extract (a0 : Int).toNat ((wrap64 (a0 + 1)) : Int).toNat)) else (none)) else (none)) else (none)) else (if 0 ≤ (wrap64 (a0 * 2)) then (if (wrap64 (a0 * 2)) ≤ (wrap64 ((wrap64 (a0 * 2)) + 2)) then (if (wrap64 ((wrap64 (a0 * 2)) + 2)) ≤ 200 then (some ((⟨#[48, 48, 48, 49, 48, 50, 48, 51, 48, 52, 48, 53, 48, 54, 48, 55, 48, 56, 48, 57, 49, 48, 49, 49, 49, 50, 49, 51, 49, 52, 49, 53, 49, 54, 49, 55, 49, 56, 49, 57, 50, 48, 50, 49, 50, 50, 50, 51, 50, 52, 50, 53, 50, 54, 50, 55, 50, 56, 50, 57, 51, 48, 51, 49, 51, 50, 51, 51, 51, 52, 51, 53, 51, 54, 51, 55, 51, 56, 51, 57, 52, 48, 52, 49, 52, 50, 52, 51, 52, 52, 52, 53, 52, 54, 52, 55, 52, 56, 52, 57, 53, 48, 53, 49, 53, 50, 53, 51, 53, 52, 53, 53, 53, 54, 53, 55, 53, 56, 53, 57, 54, 48, 54, 49, 54, 50, 54, 51, 54, 52, 54, 53, 54, 54, 54, 55, 54, 56, 54, 57, 55, 48, 55, 49, 55, 50, 55, 51, 55, 52, 55, 53, 55, 54, 55, 55, 55, 56, 55, 57, 56, 48, 56, 49, 56, 50, 56, 51, 56, 52, 56, 53, 56, 54, 56, 55, 56, 56, 56, 57, 57, 48, 57, 49, 57, 50, 57, 51, 57, 52, 57, 53, 57, 54, 57, 55, 57, 56, 57, 57]⟩ : ByteArray).extract ((wrap64 (a0 * 2)) : Int).toNat ((wrap64 ((wrap64 (a0 * 2)) + 2)) : Int).toNat)) else (none)) else (none)) else (none))
set_option maxHeartbeats 8000000 in
set_option maxRecDepth 100000 in
theorem strconv_small.calls (a0 : Int) (r : ByteArray) (w : World) (h : strconv_small.f a0 = some r) :
  Calls Tryd.prog 79 #[.int .i64 a0] w fun e w' => e = .returned (.string r) ∧ Drawn0 w w' := by
 have H : (if a0 < 10 then (if 0 ≤ a0 then (if a0 ≤ (wrap64 (a0 + 1)) then (if (wrap64 (a0 + 1)) ≤ 36 then (some ((⟨#[48, 49, 50, 51, 52, 53, 54, 55, 56, 57, 97, 98, 99, 100, 101, 102, 103, 104, 105, 106, 107, 108, 109, 110, 111, 112, 113, 114, 115, 116, 117, 118, 119, 120, 121, 122]⟩ : ByteArray).extract (a0 : Int).toNat ((wrap64 (a0 + 1)) : Int).toNat)) else (none)) else (none)) else (none)) else (if 0 ≤ (wrap64 (a0 * 2)) then (if (wrap64 (a0 * 2)) ≤ (wrap64 ((wrap64 (a0 * 2)) + 2)) then (if (wrap64 ((wrap64 (a0 * 2)) + 2)) ≤ 200 then (some ((⟨#[48, 48, 48, 49, 48, 50, 48, 51, 48, 52, 48, 53, 48, 54, 48, 55, 48, 56, 48, 57, 49, 48, 49, 49, 49, 50, 49, 51, 49, 52, 49, 53, 49, 54, 49, 55, 49, 56, 49, 57, 50, 48, 50, 49, 50, 50, 50, 51, 50, 52, 50, 53, 50, 54, 50, 55, 50, 56, 50, 57, 51, 48, 51, 49, 51, 50, 51, 51, 51, 52, 51, 53, 51, 54, 51, 55, 51, 56, 51, 57, 52, 48, 52, 49, 52, 50, 52, 51, 52, 52, 52, 53, 52, 54, 52, 55, 52, 56, 52, 57, 53, 48, 53, 49, 53, 50, 53, 51, 53, 52, 53, 53, 53, 54, 53, 55, 53, 56, 53, 57, 54, 48, 54, 49, 54, 50, 54, 51, 54, 52, 54, 53, 54, 54, 54, 55, 54, 56, 54, 57, 55, 48, 55, 49, 55, 50, 55, 51, 55, 52, 55, 53, 55, 54, 55, 55, 55, 56, 55, 57, 56, 48, 56, 49, 56, 50, 56, 51, 56, 52, 56, 53, 56, 54, 56, 55, 56, 56, 56, 57, 57, 48, 57, 49, 57, 50, 57, 51, 57, 52, 57, 53, 57, 54, 57, 55, 57, 56, 57, 57]⟩ : ByteArray).extract ((wrap64 (a0 * 2)) : Int).toNat ((wrap64 ((wrap64 (a0 * 2)) + 2)) : Int).toNat)) else (none)) else (none)) else (none))) = some r := h; clear h; by_cases c2 : a0 < 10
 ·
  rw [if_pos c2] at H; have c2b0 : decide (a0 < 10) = true := decide_eq_true c2; clear c2; by_cases c3 : 0 ≤ a0
  ·
   rw [if_pos c3] at H; have c3b0 := eq_true c3; have c3b1 : decide (0 ≤ a0) = true := decide_eq_true c3; clear c3; by_cases c4 : a0 ≤ (wrap64 (a0 + 1))
   ·
    rw [if_pos c4] at H; have c4b0 := eq_true c4; have c4b1 : decide (a0 ≤ (wrap64 (a0 + 1))) = true := decide_eq_true c4; by_cases c5 : (wrap64 (a0 + 1)) ≤ 36
    · rw [if_pos c5] at H; have c5b0 := eq_true c5; have c5b1 : decide ((wrap64 (a0 + 1)) ≤ 36) = true := decide_eq_true c5; obtain rfl := Option.some.inj H; go_enter Tryd.func79, Tryd.ntmps79; go_wp2; go_ret; exact ⟨by first | rfl | (simp; done) | (simp [*]; done), by repeat (first | exact Drawn0.refl _ | apply Drawn0.step)⟩
    · rw [if_neg c5] at H; exact absurd H (by simp)
   · rw [if_neg c4] at H; exact absurd H (by simp)
  · rw [if_neg c3] at H; exact absurd H (by simp)
 ·
  rw [if_neg c2] at H; have c2b0 : decide (a0 < 10) = false := decide_eq_false c2; clear c2; obtain ⟨ji6, hji6⟩ : ∃ j_ : Int, (wrap64 (a0 * 2)) = j_ := ⟨_, rfl⟩; (replace H : (if 0 ≤ (ji6) then (if (ji6) ≤ (wrap64 ((ji6) + 2)) then (if (wrap64 ((ji6) + 2)) ≤ 200 then (some ((⟨#[48, 48, 48, 49, 48, 50, 48, 51, 48, 52, 48, 53, 48, 54, 48, 55, 48, 56, 48, 57, 49, 48, 49, 49, 49, 50, 49, 51, 49, 52, 49, 53, 49, 54, 49, 55, 49, 56, 49, 57, 50, 48, 50, 49, 50, 50, 50, 51, 50, 52, 50, 53, 50, 54, 50, 55, 50, 56, 50, 57, 51, 48, 51, 49, 51, 50, 51, 51, 51, 52, 51, 53, 51, 54, 51, 55, 51, 56, 51, 57, 52, 48, 52, 49, 52, 50, 52, 51, 52, 52, 52, 53, 52, 54, 52, 55, 52, 56, 52, 57, 53, 48, 53, 49, 53, 50, 53, 51, 53, 52, 53, 53, 53, 54, 53, 55, 53, 56, 53, 57, 54, 48, 54, 49, 54, 50, 54, 51, 54, 52, 54, 53, 54, 54, 54, 55, 54, 56, 54, 57, 55, 48, 55, 49, 55, 50, 55, 51, 55, 52, 55, 53, 55, 54, 55, 55, 55, 56, 55, 57, 56, 48, 56, 49, 56, 50, 56, 51, 56, 52, 56, 53, 56, 54, 56, 55, 56, 56, 56, 57, 57, 48, 57, 49, 57, 50, 57, 51, 57, 52, 57, 53, 57, 54, 57, 55, 57, 56, 57, 57]⟩ : ByteArray).extract ((ji6) : Int).toNat ((wrap64 ((ji6) + 2)) : Int).toNat)) else (none)) else (none)) else (none)) = some r := by first | (rw [hji6] at H; exact H) | (simp only [hji6] at H ⊢; exact H)); have hji6w : (IntKind.i64.wrap (a0 * 2)) = ji6 := (i64_w _).trans hji6; by_cases c7 : 0 ≤ (ji6)
  ·
   rw [if_pos c7] at H; have c7b0 := eq_true c7; have c7b1 : decide (0 ≤ (ji6)) = true := decide_eq_true c7; clear c7; by_cases c8 : (ji6) ≤ (wrap64 ((ji6) + 2))
   ·
    rw [if_pos c8] at H; have c8b0 := eq_true c8; have c8b1 : decide ((ji6) ≤ (wrap64 ((ji6) + 2))) = true := decide_eq_true c8; by_cases c9 : (wrap64 ((ji6) + 2)) ≤ 200
    · rw [if_pos c9] at H; have c9b0 := eq_true c9; have c9b1 : decide ((wrap64 ((ji6) + 2)) ≤ 200) = true := decide_eq_true c9; obtain rfl := Option.some.inj H; go_enter Tryd.func79, Tryd.ntmps79; go_wp2; go_ret; exact ⟨by first | rfl | (simp; done) | (simp only [← hji6] <;> (first | rfl | simp)) | (simp [*]; done), by repeat (first | exact Drawn0.refl _ | apply Drawn0.step)⟩
    · rw [if_neg c9] at H; exact absurd H (by simp)
   · rw [if_neg c8] at H; exact absurd H (by simp)
  · rw [if_neg c7] at H; exact absurd H (by simp)
mutual
def serinetteref03_Takes.j0 : Nat → ByteArray → Bool → Option (Int)
 | 0, _, _ => none
 | k + 1, x3, x4 => if x4 = true then (some 1) else (if x3.toList = ([97, 100, 100] : List UInt8) then (serinetteref03_Takes.j1 k x3 (x3.toList == ([97, 100, 100] : List UInt8))) else (if x3.toList = ([115, 117, 98] : List UInt8) then (serinetteref03_Takes.j1 k x3 (x3.toList == ([115, 117, 98] : List UInt8))) else (if x3.toList = ([109, 117, 108] : List UInt8) then (serinetteref03_Takes.j1 k x3 (x3.toList == ([109, 117, 108] : List UInt8))) else (if x3.toList = ([100, 105, 118] : List UInt8) then (serinetteref03_Takes.j1 k x3 (x3.toList == ([100, 105, 118] : List UInt8))) else (if x3.toList = ([109, 111, 100] : List UInt8) then (serinetteref03_Takes.j1 k x3 (x3.toList == ([109, 111, 100] : List UInt8))) else (if x3.toList = ([109, 105, 110] : List UInt8) then (serinetteref03_Takes.j1 k x3 (x3.toList == ([109, 105, 110] : List UInt8))) else (if x3.toList = ([109, 97, 120] : List UInt8) then (serinetteref03_Takes.j1 k x3 (x3.toList == ([109, 97, 120] : List UInt8))) else (if x3.toList = ([108, 116] : List UInt8) then (serinetteref03_Takes.j1 k x3 (x3.toList == ([108, 116] : List UInt8))) else (if x3.toList = ([108, 101] : List UInt8) then (serinetteref03_Takes.j1 k x3 (x3.toList == ([108, 101] : List UInt8))) else (if x3.toList = ([101, 113] : List UInt8) then (serinetteref03_Takes.j1 k x3 (x3.toList == ([101, 113] : List UInt8))) else (if x3.toList = ([110, 101] : List UInt8) then (serinetteref03_Takes.j1 k x3 (x3.toList == ([110, 101] : List UInt8))) else (if x3.toList = ([97, 110, 100] : List UInt8) then (serinetteref03_Takes.j1 k x3 (x3.toList == ([97, 110, 100] : List UInt8))) else (if x3.toList = ([111, 114] : List UInt8) then (serinetteref03_Takes.j1 k x3 (x3.toList == ([111, 114] : List UInt8))) else (if x3.toList = ([120, 111, 114] : List UInt8) then (serinetteref03_Takes.j1 k x3 (x3.toList == ([120, 111, 114] : List UInt8))) else (if x3.toList = ([115, 104, 108] : List UInt8) then (serinetteref03_Takes.j1 k x3 (x3.toList == ([115, 104, 108] : List UInt8))) else (serinetteref03_Takes.j1 k x3 (x3.toList == ([115, 104, 114] : List UInt8))))))))))))))))))
def serinetteref03_Takes.j1 : Nat → ByteArray → Bool → Option (Int)
 | 0, _, _ => none
 | k + 1, x3, x11 => if x11 = true then (some 2) else (if x3.toList = ([112, 105, 99, 107] : List UInt8) then (some 3) else (some 0))
end
def serinetteref03_Takes.f (k : Nat) (a0 : ByteArray) : Option (Int) := if a0.toList = ([110, 101, 103] : List UInt8) then (serinetteref03_Takes.j0 k a0 (a0.toList == ([110, 101, 103] : List UInt8))) else (if a0.toList = ([97, 98, 115] : List UInt8) then (serinetteref03_Takes.j0 k a0 (a0.toList == ([97, 98, 115] : List UInt8))) else (if a0.toList = ([102, 108, 111, 111, 114] : List UInt8) then (serinetteref03_Takes.j0 k a0 (a0.toList == ([102, 108, 111, 111, 114] : List UInt8))) else (if a0.toList = ([114, 111, 117, 110, 100] : List UInt8) then (serinetteref03_Takes.j0 k a0 (a0.toList == ([114, 111, 117, 110, 100] : List UInt8))) else (if a0.toList = ([102, 114, 97, 99] : List UInt8) then (serinetteref03_Takes.j0 k a0 (a0.toList == ([102, 114, 97, 99] : List UInt8))) else (serinetteref03_Takes.j0 k a0 (a0.toList == ([110, 111, 116] : List UInt8)))))))
theorem serinetteref03_Takes.mono_l : ∀ k, (∀ y0 y1, LeO (serinetteref03_Takes.j0 k y0 y1) (serinetteref03_Takes.j0 (k + 1) y0 y1)) ∧ (∀ y0 y1, LeO (serinetteref03_Takes.j1 k y0 y1) (serinetteref03_Takes.j1 (k + 1) y0 y1))
 | 0 => ⟨fun _ _ r h => by simp [serinetteref03_Takes.j0] at h, fun _ _ r h => by simp [serinetteref03_Takes.j1] at h⟩
 | k + 1 => by
  obtain ⟨ih0, ih1⟩ := serinetteref03_Takes.mono_l k
  refine ⟨?_, ?_⟩
  ·
   intro y0 y1
   unfold serinetteref03_Takes.j0
   repeat' first
   | (with_reducible exact ih0 _ _)
   | (with_reducible exact ih1 _ _)
   | (with_reducible exact LeO.refl _)
   | (with_reducible exact LeO.none _)
   | (with_reducible refine LeO.ite ?_ ?_)
   | (with_reducible refine LeO.bind ?_ (fun _ => ?_))
   | exact ih0 _ _
   | exact ih1 _ _
   | exact LeO.none _
   | refine LeO.ite ?_ ?_
   | refine LeO.bind ?_ (fun _ => ?_)
  ·
   intro y0 y1
   unfold serinetteref03_Takes.j1
   repeat' first
   | (with_reducible exact ih0 _ _)
   | (with_reducible exact ih1 _ _)
   | (with_reducible exact LeO.refl _)
   | (with_reducible exact LeO.none _)
   | (with_reducible refine LeO.ite ?_ ?_)
   | (with_reducible refine LeO.bind ?_ (fun _ => ?_))
   | exact ih0 _ _
   | exact ih1 _ _
   | exact LeO.none _
   | refine LeO.ite ?_ ?_
   | refine LeO.bind ?_ (fun _ => ?_)
theorem serinetteref03_Takes.mono : ∀ a0 k, LeO (serinetteref03_Takes.f k a0) (serinetteref03_Takes.f (k + 1) a0) := by
 intro a0 k
 obtain ⟨ih0, ih1⟩ := serinetteref03_Takes.mono_l k
 unfold serinetteref03_Takes.f
 repeat' first
   | (with_reducible exact ih0 _ _)
   | (with_reducible exact ih1 _ _)
   | (with_reducible exact LeO.refl _)
   | (with_reducible exact LeO.none _)
   | (with_reducible refine LeO.ite ?_ ?_)
   | (with_reducible refine LeO.bind ?_ (fun _ => ?_))
   | exact ih0 _ _
   | exact ih1 _ _
   | exact LeO.none _
   | refine LeO.ite ?_ ?_
   | refine LeO.bind ?_ (fun _ => ?_)
set_option maxHeartbeats 8000000 in
set_option maxRecDepth 100000 in
theorem serinetteref03_Takes.calls (k : Nat) (a0 : ByteArray) (r : Int) (w : World) (h : serinetteref03_Takes.f k a0 = some r) :
  Calls Tryd.prog 8 #[.string a0] w fun e w' => e = .returned (.int .i64 r) ∧ Drawn0 w w' := by
 have H : (if a0.toList = ([110, 101, 103] : List UInt8) then (serinetteref03_Takes.j0 k a0 (a0.toList == ([110, 101, 103] : List UInt8))) else (if a0.toList = ([97, 98, 115] : List UInt8) then (serinetteref03_Takes.j0 k a0 (a0.toList == ([97, 98, 115] : List UInt8))) else (if a0.toList = ([102, 108, 111, 111, 114] : List UInt8) then (serinetteref03_Takes.j0 k a0 (a0.toList == ([102, 108, 111, 111, 114] : List UInt8))) else (if a0.toList = ([114, 111, 117, 110, 100] : List UInt8) then (serinetteref03_Takes.j0 k a0 (a0.toList == ([114, 111, 117, 110, 100] : List UInt8))) else (if a0.toList = ([102, 114, 97, 99] : List UInt8) then (serinetteref03_Takes.j0 k a0 (a0.toList == ([102, 114, 97, 99] : List UInt8))) else (serinetteref03_Takes.j0 k a0 (a0.toList == ([110, 111, 116] : List UInt8)))))))) = some r := h; clear h; have HC2 := Aside0.mk H; clear H; go_enter Tryd.func8, Tryd.ntmps8; go_upto_if 4 with (fail)
 go_cut [4] (fun v4 wc => ∃ (kq : Nat) (x4_1 : Bool), v4 = .bool x4_1 ∧ Aside0 (serinetteref03_Takes.j0 kq a0 x4_1 = some r) ∧ Aside0 (kq ≤ k) ∧ Drawn0 w wc)
 case first =>
  have H := HC2.out; clear HC2; by_cases c3 : a0.toList = ([110, 101, 103] : List UInt8)
  ·
   rw [if_pos c3] at H; have c3b0 : (a0.toList == ([110, 101, 103] : List UInt8)) = true := beq_iff_eq.mpr c3; have c3b1 : (a0.toList != ([110, 101, 103] : List UInt8)) = false := bne_eq_false_iff_eq.mpr c3; clear c3; (first | rw [c3b0] | (simp only [i64_w, i32_w]; rw [c3b0]) | skip); have H' := Aside0.mk H; clear H; go_wp2; go_meet
   case rel => exact ⟨_, ((a0.toList == ([110, 101, 103] : List UInt8))), (by first | rfl | (simp; done) | (simp [*]; done)), H', ⟨by first | omega | exact Nat.le_refl _⟩, by repeat (first | exact Drawn0.refl _ | apply Drawn0.step)⟩
  ·
   rw [if_neg c3] at H; have c3b0 : (a0.toList == ([110, 101, 103] : List UInt8)) = false := beq_eq_false_iff_ne.mpr c3; have c3b1 : (a0.toList != ([110, 101, 103] : List UInt8)) = true := bne_iff_ne.mpr c3; (first | rw [c3b0] | (simp only [i64_w, i32_w]; rw [c3b0]) | skip); by_cases c4 : a0.toList = ([97, 98, 115] : List UInt8)
   ·
    rw [if_pos c4] at H; have c4b0 : (a0.toList == ([97, 98, 115] : List UInt8)) = true := beq_iff_eq.mpr c4; have c4b1 : (a0.toList != ([97, 98, 115] : List UInt8)) = false := bne_eq_false_iff_eq.mpr c4; clear c4; have H' := Aside0.mk H; clear H; go_wp2; go_meet
    case rel => exact ⟨_, ((a0.toList == ([97, 98, 115] : List UInt8))), (by first | rfl | (simp; done) | (simp [*]; done)), H', ⟨by first | omega | exact Nat.le_refl _⟩, by repeat (first | exact Drawn0.refl _ | apply Drawn0.step)⟩
   ·
    rw [if_neg c4] at H; have c4b0 : (a0.toList == ([97, 98, 115] : List UInt8)) = false := beq_eq_false_iff_ne.mpr c4; have c4b1 : (a0.toList != ([97, 98, 115] : List UInt8)) = true := bne_iff_ne.mpr c4; by_cases c5 : a0.toList = ([102, 108, 111, 111, 114] : List UInt8)
    ·
     rw [if_pos c5] at H; have c5b0 : (a0.toList == ([102, 108, 111, 111, 114] : List UInt8)) = true := beq_iff_eq.mpr c5; have c5b1 : (a0.toList != ([102, 108, 111, 111, 114] : List UInt8)) = false := bne_eq_false_iff_eq.mpr c5; clear c5; have H' := Aside0.mk H; clear H; go_wp2; go_meet
     case rel => exact ⟨_, ((a0.toList == ([102, 108, 111, 111, 114] : List UInt8))), (by first | rfl | (simp; done) | (simp [*]; done)), H', ⟨by first | omega | exact Nat.le_refl _⟩, by repeat (first | exact Drawn0.refl _ | apply Drawn0.step)⟩
    ·
     rw [if_neg c5] at H; have c5b0 : (a0.toList == ([102, 108, 111, 111, 114] : List UInt8)) = false := beq_eq_false_iff_ne.mpr c5; have c5b1 : (a0.toList != ([102, 108, 111, 111, 114] : List UInt8)) = true := bne_iff_ne.mpr c5; by_cases c6 : a0.toList = ([114, 111, 117, 110, 100] : List UInt8)
     ·
      rw [if_pos c6] at H; have c6b0 : (a0.toList == ([114, 111, 117, 110, 100] : List UInt8)) = true := beq_iff_eq.mpr c6; have c6b1 : (a0.toList != ([114, 111, 117, 110, 100] : List UInt8)) = false := bne_eq_false_iff_eq.mpr c6; clear c6; have H' := Aside0.mk H; clear H; go_wp2; go_meet
      case rel => exact ⟨_, ((a0.toList == ([114, 111, 117, 110, 100] : List UInt8))), (by first | rfl | (simp; done) | (simp [*]; done)), H', ⟨by first | omega | exact Nat.le_refl _⟩, by repeat (first | exact Drawn0.refl _ | apply Drawn0.step)⟩
     ·
      rw [if_neg c6] at H; have c6b0 : (a0.toList == ([114, 111, 117, 110, 100] : List UInt8)) = false := beq_eq_false_iff_ne.mpr c6; have c6b1 : (a0.toList != ([114, 111, 117, 110, 100] : List UInt8)) = true := bne_iff_ne.mpr c6; by_cases c7 : a0.toList = ([102, 114, 97, 99] : List UInt8)
      ·
       rw [if_pos c7] at H; have c7b0 : (a0.toList == ([102, 114, 97, 99] : List UInt8)) = true := beq_iff_eq.mpr c7; have c7b1 : (a0.toList != ([102, 114, 97, 99] : List UInt8)) = false := bne_eq_false_iff_eq.mpr c7; clear c7; have H' := Aside0.mk H; clear H; go_wp2; go_meet
       case rel => exact ⟨_, ((a0.toList == ([102, 114, 97, 99] : List UInt8))), (by first | rfl | (simp; done) | (simp [*]; done)), H', ⟨by first | omega | exact Nat.le_refl _⟩, by repeat (first | exact Drawn0.refl _ | apply Drawn0.step)⟩
      ·
       rw [if_neg c7] at H; have c7b0 : (a0.toList == ([102, 114, 97, 99] : List UInt8)) = false := beq_eq_false_iff_ne.mpr c7; have c7b1 : (a0.toList != ([102, 114, 97, 99] : List UInt8)) = true := bne_iff_ne.mpr c7; have H' := Aside0.mk H; clear H; go_wp2; go_meet
       case rel => exact ⟨_, ((a0.toList == ([110, 111, 116] : List UInt8))), (by first | rfl | (simp; done) | (simp [*]; done)), H', ⟨by first | omega | exact Nat.le_refl _⟩, by repeat (first | exact Drawn0.refl _ | apply Drawn0.step)⟩
 case rest =>
  clear HC2; (try clear p2); (try clear c3); (try clear c3b0); (try clear c3b1); (try clear c4); (try clear c4b0); (try clear c4b1); (try clear c5); (try clear c5b0); (try clear c5b1); (try clear c6); (try clear c6b0); (try clear c6b1); (try clear c7); (try clear c7b0); (try clear c7b1); obtain ⟨kq, x4_1, rfl, HA, HJ1, ⟨mc1, rfl⟩⟩ := hcut; cases kq with
  | zero => exact absurd HA.out (by simp [serinetteref03_Takes.j0])
  | succ kj1 =>
   have H := HA.out; clear HA; simp only [serinetteref03_Takes.j0] at H; by_cases c8 : x4_1 = true
   · subst c8; rw [if_pos rfl] at H; obtain rfl := Option.some.inj H; go_wp2; go_ret; exact ⟨by first | rfl | (simp; done) | (simp [*]; done), by repeat (first | exact Drawn0.refl _ | apply Drawn0.step)⟩
   ·
    replace c8 := Bool.eq_false_iff.mpr c8; subst c8; rw [if_neg (show ¬ (false = true) by decide)] at H; have HC9 := Aside0.mk H; clear H; go_upto_if 11 with (fail)
    go_cut [11] (fun v11 wc => ∃ (kq : Nat) (x11_8 : Bool), v11 = .bool x11_8 ∧ Aside0 (serinetteref03_Takes.j1 kq a0 x11_8 = some r) ∧ Aside0 (kq ≤ kj1) ∧ Drawn0 w wc)
    case first =>
     have H := HC9.out; clear HC9; by_cases c10 : a0.toList = ([97, 100, 100] : List UInt8)
     ·
      rw [if_pos c10] at H; have c10b0 : (a0.toList == ([97, 100, 100] : List UInt8)) = true := beq_iff_eq.mpr c10; have c10b1 : (a0.toList != ([97, 100, 100] : List UInt8)) = false := bne_eq_false_iff_eq.mpr c10; clear c10; (first | rw [c10b0] | (simp only [i64_w, i32_w]; rw [c10b0]) | skip); have H' := Aside0.mk H; clear H; go_wp2; go_meet
      case rel => exact ⟨_, ((a0.toList == ([97, 100, 100] : List UInt8))), (by first | rfl | (simp; done) | (simp [*]; done)), H', ⟨by have := HJ1.out; first | omega | exact Nat.le_refl _⟩, by repeat (first | exact Drawn0.refl _ | apply Drawn0.step)⟩
     ·
      rw [if_neg c10] at H; have c10b0 : (a0.toList == ([97, 100, 100] : List UInt8)) = false := beq_eq_false_iff_ne.mpr c10; have c10b1 : (a0.toList != ([97, 100, 100] : List UInt8)) = true := bne_iff_ne.mpr c10; (first | rw [c10b0] | (simp only [i64_w, i32_w]; rw [c10b0]) | skip); by_cases c11 : a0.toList = ([115, 117, 98] : List UInt8)
      ·
       rw [if_pos c11] at H; have c11b0 : (a0.toList == ([115, 117, 98] : List UInt8)) = true := beq_iff_eq.mpr c11; have c11b1 : (a0.toList != ([115, 117, 98] : List UInt8)) = false := bne_eq_false_iff_eq.mpr c11; clear c11; have H' := Aside0.mk H; clear H; go_wp2; go_meet
       case rel => exact ⟨_, ((a0.toList == ([115, 117, 98] : List UInt8))), (by first | rfl | (simp; done) | (simp [*]; done)), H', ⟨by have := HJ1.out; first | omega | exact Nat.le_refl _⟩, by repeat (first | exact Drawn0.refl _ | apply Drawn0.step)⟩
      ·
       rw [if_neg c11] at H; have c11b0 : (a0.toList == ([115, 117, 98] : List UInt8)) = false := beq_eq_false_iff_ne.mpr c11; have c11b1 : (a0.toList != ([115, 117, 98] : List UInt8)) = true := bne_iff_ne.mpr c11; by_cases c12 : a0.toList = ([109, 117, 108] : List UInt8)
       ·
        rw [if_pos c12] at H; have c12b0 : (a0.toList == ([109, 117, 108] : List UInt8)) = true := beq_iff_eq.mpr c12; have c12b1 : (a0.toList != ([109, 117, 108] : List UInt8)) = false := bne_eq_false_iff_eq.mpr c12; clear c12; have H' := Aside0.mk H; clear H; go_wp2; go_meet
        case rel => exact ⟨_, ((a0.toList == ([109, 117, 108] : List UInt8))), (by first | rfl | (simp; done) | (simp [*]; done)), H', ⟨by have := HJ1.out; first | omega | exact Nat.le_refl _⟩, by repeat (first | exact Drawn0.refl _ | apply Drawn0.step)⟩
       ·
        rw [if_neg c12] at H; have c12b0 : (a0.toList == ([109, 117, 108] : List UInt8)) = false := beq_eq_false_iff_ne.mpr c12; have c12b1 : (a0.toList != ([109, 117, 108] : List UInt8)) = true := bne_iff_ne.mpr c12; by_cases c13 : a0.toList = ([100, 105, 118] : List UInt8)
        ·
         rw [if_pos c13] at H; have c13b0 : (a0.toList == ([100, 105, 118] : List UInt8)) = true := beq_iff_eq.mpr c13; have c13b1 : (a0.toList != ([100, 105, 118] : List UInt8)) = false := bne_eq_false_iff_eq.mpr c13; clear c13; have H' := Aside0.mk H; clear H; go_wp2; go_meet
         case rel => exact ⟨_, ((a0.toList == ([100, 105, 118] : List UInt8))), (by first | rfl | (simp; done) | (simp [*]; done)), H', ⟨by have := HJ1.out; first | omega | exact Nat.le_refl _⟩, by repeat (first | exact Drawn0.refl _ | apply Drawn0.step)⟩
        ·
         rw [if_neg c13] at H; have c13b0 : (a0.toList == ([100, 105, 118] : List UInt8)) = false := beq_eq_false_iff_ne.mpr c13; have c13b1 : (a0.toList != ([100, 105, 118] : List UInt8)) = true := bne_iff_ne.mpr c13; by_cases c14 : a0.toList = ([109, 111, 100] : List UInt8)
         ·
          rw [if_pos c14] at H; have c14b0 : (a0.toList == ([109, 111, 100] : List UInt8)) = true := beq_iff_eq.mpr c14; have c14b1 : (a0.toList != ([109, 111, 100] : List UInt8)) = false := bne_eq_false_iff_eq.mpr c14; clear c14; have H' := Aside0.mk H; clear H; go_wp2; go_meet
          case rel => exact ⟨_, ((a0.toList == ([109, 111, 100] : List UInt8))), (by first | rfl | (simp; done) | (simp [*]; done)), H', ⟨by have := HJ1.out; first | omega | exact Nat.le_refl _⟩, by repeat (first | exact Drawn0.refl _ | apply Drawn0.step)⟩
         ·
          rw [if_neg c14] at H; have c14b0 : (a0.toList == ([109, 111, 100] : List UInt8)) = false := beq_eq_false_iff_ne.mpr c14; have c14b1 : (a0.toList != ([109, 111, 100] : List UInt8)) = true := bne_iff_ne.mpr c14; by_cases c15 : a0.toList = ([109, 105, 110] : List UInt8)
          ·
           rw [if_pos c15] at H; have c15b0 : (a0.toList == ([109, 105, 110] : List UInt8)) = true := beq_iff_eq.mpr c15; have c15b1 : (a0.toList != ([109, 105, 110] : List UInt8)) = false := bne_eq_false_iff_eq.mpr c15; clear c15; have H' := Aside0.mk H; clear H; go_wp2; go_meet
           case rel => exact ⟨_, ((a0.toList == ([109, 105, 110] : List UInt8))), (by first | rfl | (simp; done) | (simp [*]; done)), H', ⟨by have := HJ1.out; first | omega | exact Nat.le_refl _⟩, by repeat (first | exact Drawn0.refl _ | apply Drawn0.step)⟩
          ·
           rw [if_neg c15] at H; have c15b0 : (a0.toList == ([109, 105, 110] : List UInt8)) = false := beq_eq_false_iff_ne.mpr c15; have c15b1 : (a0.toList != ([109, 105, 110] : List UInt8)) = true := bne_iff_ne.mpr c15; by_cases c16 : a0.toList = ([109, 97, 120] : List UInt8)
           ·
            rw [if_pos c16] at H; have c16b0 : (a0.toList == ([109, 97, 120] : List UInt8)) = true := beq_iff_eq.mpr c16; have c16b1 : (a0.toList != ([109, 97, 120] : List UInt8)) = false := bne_eq_false_iff_eq.mpr c16; clear c16; have H' := Aside0.mk H; clear H; go_wp2; go_meet
            case rel => exact ⟨_, ((a0.toList == ([109, 97, 120] : List UInt8))), (by first | rfl | (simp; done) | (simp [*]; done)), H', ⟨by have := HJ1.out; first | omega | exact Nat.le_refl _⟩, by repeat (first | exact Drawn0.refl _ | apply Drawn0.step)⟩
           ·
            rw [if_neg c16] at H; have c16b0 : (a0.toList == ([109, 97, 120] : List UInt8)) = false := beq_eq_false_iff_ne.mpr c16; have c16b1 : (a0.toList != ([109, 97, 120] : List UInt8)) = true := bne_iff_ne.mpr c16; by_cases c17 : a0.toList = ([108, 116] : List UInt8)
            ·
             rw [if_pos c17] at H; have c17b0 : (a0.toList == ([108, 116] : List UInt8)) = true := beq_iff_eq.mpr c17; have c17b1 : (a0.toList != ([108, 116] : List UInt8)) = false := bne_eq_false_iff_eq.mpr c17; clear c17; have H' := Aside0.mk H; clear H; go_wp2; go_meet
             case rel => exact ⟨_, ((a0.toList == ([108, 116] : List UInt8))), (by first | rfl | (simp; done) | (simp [*]; done)), H', ⟨by have := HJ1.out; first | omega | exact Nat.le_refl _⟩, by repeat (first | exact Drawn0.refl _ | apply Drawn0.step)⟩
            ·
             rw [if_neg c17] at H; have c17b0 : (a0.toList == ([108, 116] : List UInt8)) = false := beq_eq_false_iff_ne.mpr c17; have c17b1 : (a0.toList != ([108, 116] : List UInt8)) = true := bne_iff_ne.mpr c17; by_cases c18 : a0.toList = ([108, 101] : List UInt8)
             ·
              rw [if_pos c18] at H; have c18b0 : (a0.toList == ([108, 101] : List UInt8)) = true := beq_iff_eq.mpr c18; have c18b1 : (a0.toList != ([108, 101] : List UInt8)) = false := bne_eq_false_iff_eq.mpr c18; clear c18; have H' := Aside0.mk H; clear H; go_wp2; go_meet
              case rel => exact ⟨_, ((a0.toList == ([108, 101] : List UInt8))), (by first | rfl | (simp; done) | (simp [*]; done)), H', ⟨by have := HJ1.out; first | omega | exact Nat.le_refl _⟩, by repeat (first | exact Drawn0.refl _ | apply Drawn0.step)⟩
             ·
              rw [if_neg c18] at H; have c18b0 : (a0.toList == ([108, 101] : List UInt8)) = false := beq_eq_false_iff_ne.mpr c18; have c18b1 : (a0.toList != ([108, 101] : List UInt8)) = true := bne_iff_ne.mpr c18; by_cases c19 : a0.toList = ([101, 113] : List UInt8)
              ·
               rw [if_pos c19] at H; have c19b0 : (a0.toList == ([101, 113] : List UInt8)) = true := beq_iff_eq.mpr c19; have c19b1 : (a0.toList != ([101, 113] : List UInt8)) = false := bne_eq_false_iff_eq.mpr c19; clear c19; have H' := Aside0.mk H; clear H; go_wp2; go_meet
               case rel => exact ⟨_, ((a0.toList == ([101, 113] : List UInt8))), (by first | rfl | (simp; done) | (simp [*]; done)), H', ⟨by have := HJ1.out; first | omega | exact Nat.le_refl _⟩, by repeat (first | exact Drawn0.refl _ | apply Drawn0.step)⟩
              ·
               rw [if_neg c19] at H; have c19b0 : (a0.toList == ([101, 113] : List UInt8)) = false := beq_eq_false_iff_ne.mpr c19; have c19b1 : (a0.toList != ([101, 113] : List UInt8)) = true := bne_iff_ne.mpr c19; by_cases c20 : a0.toList = ([110, 101] : List UInt8)
               ·
                rw [if_pos c20] at H; have c20b0 : (a0.toList == ([110, 101] : List UInt8)) = true := beq_iff_eq.mpr c20; have c20b1 : (a0.toList != ([110, 101] : List UInt8)) = false := bne_eq_false_iff_eq.mpr c20; clear c20; have H' := Aside0.mk H; clear H; go_wp2; go_meet
                case rel => exact ⟨_, ((a0.toList == ([110, 101] : List UInt8))), (by first | rfl | (simp; done) | (simp [*]; done)), H', ⟨by have := HJ1.out; first | omega | exact Nat.le_refl _⟩, by repeat (first | exact Drawn0.refl _ | apply Drawn0.step)⟩
               ·
                rw [if_neg c20] at H; have c20b0 : (a0.toList == ([110, 101] : List UInt8)) = false := beq_eq_false_iff_ne.mpr c20; have c20b1 : (a0.toList != ([110, 101] : List UInt8)) = true := bne_iff_ne.mpr c20; by_cases c21 : a0.toList = ([97, 110, 100] : List UInt8)
                ·
                 rw [if_pos c21] at H; have c21b0 : (a0.toList == ([97, 110, 100] : List UInt8)) = true := beq_iff_eq.mpr c21; have c21b1 : (a0.toList != ([97, 110, 100] : List UInt8)) = false := bne_eq_false_iff_eq.mpr c21; clear c21; have H' := Aside0.mk H; clear H; go_wp2; go_meet
                 case rel => exact ⟨_, ((a0.toList == ([97, 110, 100] : List UInt8))), (by first | rfl | (simp; done) | (simp [*]; done)), H', ⟨by have := HJ1.out; first | omega | exact Nat.le_refl _⟩, by repeat (first | exact Drawn0.refl _ | apply Drawn0.step)⟩
                ·
                 rw [if_neg c21] at H; have c21b0 : (a0.toList == ([97, 110, 100] : List UInt8)) = false := beq_eq_false_iff_ne.mpr c21; have c21b1 : (a0.toList != ([97, 110, 100] : List UInt8)) = true := bne_iff_ne.mpr c21; by_cases c22 : a0.toList = ([111, 114] : List UInt8)
                 ·
                  rw [if_pos c22] at H; have c22b0 : (a0.toList == ([111, 114] : List UInt8)) = true := beq_iff_eq.mpr c22; have c22b1 : (a0.toList != ([111, 114] : List UInt8)) = false := bne_eq_false_iff_eq.mpr c22; clear c22; have H' := Aside0.mk H; clear H; go_wp2; go_meet
                  case rel => exact ⟨_, ((a0.toList == ([111, 114] : List UInt8))), (by first | rfl | (simp; done) | (simp [*]; done)), H', ⟨by have := HJ1.out; first | omega | exact Nat.le_refl _⟩, by repeat (first | exact Drawn0.refl _ | apply Drawn0.step)⟩
                 ·
                  rw [if_neg c22] at H; have c22b0 : (a0.toList == ([111, 114] : List UInt8)) = false := beq_eq_false_iff_ne.mpr c22; have c22b1 : (a0.toList != ([111, 114] : List UInt8)) = true := bne_iff_ne.mpr c22; by_cases c23 : a0.toList = ([120, 111, 114] : List UInt8)
                  ·
                   rw [if_pos c23] at H; have c23b0 : (a0.toList == ([120, 111, 114] : List UInt8)) = true := beq_iff_eq.mpr c23; have c23b1 : (a0.toList != ([120, 111, 114] : List UInt8)) = false := bne_eq_false_iff_eq.mpr c23; clear c23; have H' := Aside0.mk H; clear H; go_wp2; go_meet
                   case rel => exact ⟨_, ((a0.toList == ([120, 111, 114] : List UInt8))), (by first | rfl | (simp; done) | (simp [*]; done)), H', ⟨by have := HJ1.out; first | omega | exact Nat.le_refl _⟩, by repeat (first | exact Drawn0.refl _ | apply Drawn0.step)⟩
                  ·
                   rw [if_neg c23] at H; have c23b0 : (a0.toList == ([120, 111, 114] : List UInt8)) = false := beq_eq_false_iff_ne.mpr c23; have c23b1 : (a0.toList != ([120, 111, 114] : List UInt8)) = true := bne_iff_ne.mpr c23; by_cases c24 : a0.toList = ([115, 104, 108] : List UInt8)
                   ·
                    rw [if_pos c24] at H; have c24b0 : (a0.toList == ([115, 104, 108] : List UInt8)) = true := beq_iff_eq.mpr c24; have c24b1 : (a0.toList != ([115, 104, 108] : List UInt8)) = false := bne_eq_false_iff_eq.mpr c24; clear c24; have H' := Aside0.mk H; clear H; go_wp2; go_meet
                    case rel => exact ⟨_, ((a0.toList == ([115, 104, 108] : List UInt8))), (by first | rfl | (simp; done) | (simp [*]; done)), H', ⟨by have := HJ1.out; first | omega | exact Nat.le_refl _⟩, by repeat (first | exact Drawn0.refl _ | apply Drawn0.step)⟩
                   ·
                    rw [if_neg c24] at H; have c24b0 : (a0.toList == ([115, 104, 108] : List UInt8)) = false := beq_eq_false_iff_ne.mpr c24; have c24b1 : (a0.toList != ([115, 104, 108] : List UInt8)) = true := bne_iff_ne.mpr c24; have H' := Aside0.mk H; clear H; go_wp2; go_meet
                    case rel => exact ⟨_, ((a0.toList == ([115, 104, 114] : List UInt8))), (by first | rfl | (simp; done) | (simp [*]; done)), H', ⟨by have := HJ1.out; first | omega | exact Nat.le_refl _⟩, by repeat (first | exact Drawn0.refl _ | apply Drawn0.step)⟩
    case rest =>
     clear HC9; (try clear c1); (try clear c2); (try clear p2); (try clear c3); (try clear c3b0); (try clear c3b1); (try clear c4); (try clear c4b0); (try clear c4b1); (try clear c5); (try clear c5b0); (try clear c5b1); (try clear c6); (try clear c6b0); (try clear c6b1); (try clear c7); (try clear c7b0); (try clear c7b1); (try clear c8); (try clear c10); (try clear c10b0); (try clear c10b1); (try clear c11); (try clear c11b0); (try clear c11b1); (try clear c12); (try clear c12b0); (try clear c12b1); (try clear c13); (try clear c13b0); (try clear c13b1); (try clear c14); (try clear c14b0); (try clear c14b1); (try clear c15); (try clear c15b0); (try clear c15b1); (try clear c16); (try clear c16b0); (try clear c16b1); (try clear c17); (try clear c17b0); (try clear c17b1); (try clear c18); (try clear c18b0); (try clear c18b1); (try clear c19); (try clear c19b0); (try clear c19b1); (try clear c20); (try clear c20b0); (try clear c20b1); (try clear c21); (try clear c21b0); (try clear c21b1); (try clear c22); (try clear c22b0); (try clear c22b1); (try clear c23); (try clear c23b0); (try clear c23b1); (try clear c24); (try clear c24b0); (try clear c24b1); (try clear p2); obtain ⟨kq, x11_8, rfl, HA, HJ8, ⟨mc8, rfl⟩⟩ := hcut; cases kq with
     | zero => exact absurd HA.out (by simp [serinetteref03_Takes.j1])
     | succ kj8 =>
      have H := HA.out; clear HA; simp only [serinetteref03_Takes.j1] at H; by_cases c25 : x11_8 = true
      · subst c25; rw [if_pos rfl] at H; obtain rfl := Option.some.inj H; go_wp2; go_ret; exact ⟨by first | rfl | (simp; done) | (simp [*]; done), by repeat (first | exact Drawn0.refl _ | apply Drawn0.step)⟩
      ·
       replace c25 := Bool.eq_false_iff.mpr c25; subst c25; rw [if_neg (show ¬ (false = true) by decide)] at H; by_cases c26 : a0.toList = ([112, 105, 99, 107] : List UInt8)
       · rw [if_pos c26] at H; have c26b0 : (a0.toList == ([112, 105, 99, 107] : List UInt8)) = true := beq_iff_eq.mpr c26; have c26b1 : (a0.toList != ([112, 105, 99, 107] : List UInt8)) = false := bne_eq_false_iff_eq.mpr c26; clear c26; obtain rfl := Option.some.inj H; go_wp2; go_ret; exact ⟨by first | rfl | (simp; done) | (simp [*]; done), by repeat (first | exact Drawn0.refl _ | apply Drawn0.step)⟩
       · rw [if_neg c26] at H; have c26b0 : (a0.toList == ([112, 105, 99, 107] : List UInt8)) = false := beq_eq_false_iff_ne.mpr c26; have c26b1 : (a0.toList != ([112, 105, 99, 107] : List UInt8)) = true := bne_iff_ne.mpr c26; obtain rfl := Option.some.inj H; go_wp2; go_ret; exact ⟨by first | rfl | (simp; done) | (simp [*]; done), by repeat (first | exact Drawn0.refl _ | apply Drawn0.step)⟩
def serinetteref01_Cmp.j0 : Nat → Bool → Int → Int → Int → Int → Option (Int)
 | 0, _, _, _, _, _ => none
 | k + 1, x14, x662000, x662001, x663000, x663001 => if x14 = true then (some 0) else ((serinetteref01_Is.f k x662000 x662001).bind fun t665 => (if t665 = true then ((serinetteref01_Is.f k x663000 x663001).bind fun t666 => (if t666 = true then (if (wrap64 (x662000 * x663001)) < (wrap64 (x663000 * x662001)) then (some (-1)) else (if (wrap64 (x662000 * x663001)) > (wrap64 (x663000 * x662001)) then (some 1) else (some 0))) else (some 1))) else (some (-1))))
def serinetteref01_Cmp.f (k : Nat) (a0_0 : Int) (a0_1 : Int) (a1_0 : Int) (a1_1 : Int) : Option (Int) := (serinetteref01_Is.f k a0_0 a0_1).bind fun t663 => (if t663 = true then (serinetteref01_Cmp.j0 k false a0_0 a0_1 a1_0 a1_1) else ((serinetteref01_Is.f k a1_0 a1_1).bind fun t664 => (serinetteref01_Cmp.j0 k (!t664) a0_0 a0_1 a1_0 a1_1)))
theorem serinetteref01_Cmp.mono_l : ∀ k, (∀ y0 y1 y2 y3 y4, LeO (serinetteref01_Cmp.j0 k y0 y1 y2 y3 y4) (serinetteref01_Cmp.j0 (k + 1) y0 y1 y2 y3 y4))
 | 0 => fun _ _ _ _ _ r h => by simp [serinetteref01_Cmp.j0] at h
 | k + 1 => by
  have ih0 := serinetteref01_Cmp.mono_l k
  ·
   intro y0 y1 y2 y3 y4
   unfold serinetteref01_Cmp.j0
   repeat' first
   | (with_reducible exact ih0 _ _ _ _ _)
   | (with_reducible exact serinetteref01_Is.mono _ _ _)
   | (with_reducible exact LeO.refl _)
   | (with_reducible exact LeO.none _)
   | (with_reducible refine LeO.ite ?_ ?_)
   | (with_reducible refine LeO.bind ?_ (fun _ => ?_))
   | exact ih0 _ _ _ _ _
   | exact serinetteref01_Is.mono _ _ _
   | exact LeO.none _
   | refine LeO.ite ?_ ?_
   | refine LeO.bind ?_ (fun _ => ?_)
theorem serinetteref01_Cmp.mono : ∀ a0 a1 a2 a3 k, LeO (serinetteref01_Cmp.f k a0 a1 a2 a3) (serinetteref01_Cmp.f (k + 1) a0 a1 a2 a3) := by
 intro a0 a1 a2 a3 k
 have ih0 := serinetteref01_Cmp.mono_l k
 unfold serinetteref01_Cmp.f
 repeat' first
   | (with_reducible exact ih0 _ _ _ _ _)
   | (with_reducible exact serinetteref01_Is.mono _ _ _)
   | (with_reducible exact LeO.refl _)
   | (with_reducible exact LeO.none _)
   | (with_reducible refine LeO.ite ?_ ?_)
   | (with_reducible refine LeO.bind ?_ (fun _ => ?_))
   | exact ih0 _ _ _ _ _
   | exact serinetteref01_Is.mono _ _ _
   | exact LeO.none _
   | refine LeO.ite ?_ ?_
   | refine LeO.bind ?_ (fun _ => ?_)
set_option maxHeartbeats 8000000 in
set_option maxRecDepth 100000 in
theorem serinetteref01_Cmp.calls (k : Nat) (a0_0 : Int) (a0_1 : Int) (a1_0 : Int) (a1_1 : Int) (r : Int) (w : World) (h : serinetteref01_Cmp.f k a0_0 a0_1 a1_0 a1_1 = some r) :
  Calls Tryd.prog 20 #[.agg #[.int .i64 a0_0, .int .i64 a0_1], .agg #[.int .i64 a1_0, .int .i64 a1_1]] w fun e w' => e = .returned (.int .i64 r) ∧ Below w.heap.size w w' := by
 have hu23 := Tryd.underlying23; have HB := Aside0.mk (Below.refl w.heap.size w); have H : ((serinetteref01_Is.f k a0_0 a0_1).bind fun t663 => (if t663 = true then (serinetteref01_Cmp.j0 k false a0_0 a0_1 a1_0 a1_1) else ((serinetteref01_Is.f k a1_0 a1_1).bind fun t664 => (serinetteref01_Cmp.j0 k (!t664) a0_0 a0_1 a1_0 a1_1)))) = some r := h; clear h; have HC3 := Aside0.mk H; clear H; go_enter Tryd.func20, Tryd.ntmps20; go_upto_region 1 with (first | ((with_reducible refine gate_dst (N := 2) rfl ?_); refine box_event ?hg (N := 2) ?hd (cs := #[.int .i64 a0_0, .int .i64 a0_1]) (t := 23) ?hr ?_; (case hd => rfl); (case hg => rfl); (case hr => first | (go_simp; done) | (go_simp; rfl)); intro gb661 hg w4 hbox hb; have BK661 := Aside0.mk (hbox); have GW661 := hz_ hg HB; have GE661 := hz_ hg HB; replace HB := hs HB hb; clear hb hbox hg) | ((with_reducible refine gate_dst (N := 3) rfl ?_); refine box_event ?hg (N := 3) ?hd (cs := #[.int .i64 a1_0, .int .i64 a1_1]) (t := 23) ?hr ?_; (case hd => rfl); (case hg => rfl); (case hr => first | (go_simp; done) | (go_simp; rfl)); intro gb662 hg w5 hbox hb; have BK662 := Aside0.mk (hbox); have GW662 := Aside0.mk ((by rw [hg]; exact (below_size (by repeat first | (with_reducible exact HB.out) | refine bl1 ?_ | (with_reducible refine bset ?_ ‹_›) | exact HB.out)) : w.heap.size ≤ gb662)); have GE662 := Aside0.mk ((by rw [hg]; exact (below_size (by repeat first | (with_reducible exact HB.out) | refine bl1 ?_ | (with_reducible refine bset ?_ ‹_›) | exact HB.out)) : w.heap.size ≤ gb662)); have NB661_662 := nlk hg BK661; have NB662_661 := ngk hg BK661; replace BK661 := kb BK661 hb; replace HB := Aside0.mk (below_step (by repeat first | (with_reducible exact HB.out) | refine bl1 ?_ | (with_reducible refine bset ?_ ‹_›) | exact HB.out) hb); clear hb hbox hg)); (try simp only [Act.put, List.setIfInBounds_toArray, List.set_cons_zero, List.set_cons_succ])
 go_cut [14] (fun v14 wc => ∃ (kq : Nat) (x14_2 : Bool), v14 = .bool x14_2 ∧ Aside0 (serinetteref01_Cmp.j0 kq x14_2 a0_0 a0_1 a1_0 a1_1 = some r) ∧ Aside0 (kq ≤ k) ∧ Aside0 (wc.heap[gb661]? = some (.cells #[.int .i64 a0_0, .int .i64 a0_1] 23 (0, 0))) ∧ Aside0 (wc.heap[gb662]? = some (.cells #[.int .i64 a1_0, .int .i64 a1_1] 23 (0, 0))) ∧ Aside0 (Below w.heap.size w wc))
 case first =>
  have H := HC3.out; clear HC3; replace H := Option.bind_eq_some_iff.mp H; obtain ⟨t663, A60, H⟩ := H; (try dsimp only at H); have A6 := Aside0.mk A60; clear A60; by_cases c7 : t663 = true
  ·
   subst c7; rw [if_pos rfl] at H; have H' := Aside0.mk H; clear H; have hnb8 := NB661_662.out; have hnc8 := NB662_661.out; obtain ⟨hcz9_0, hcz9_1⟩ := bc2 BK661.out; obtain ⟨hfz9_0, hfz9_1⟩ := bf2 BK661.out; go_wp2_with (first | ((with_reducible refine gate_callee (f := 19) rfl ?_); refine goesL_ (some 8) rfl rfl Tryd.func19 (by kernel_rfl) rfl #[.agg #[.int .i64 a0_0, .int .i64 a0_1]] rfl (by (try simp only [mp]); first | done | rfl | (simp only [ld]; rfl)) ?_; (with_reducible refine (serinetteref01_Is.calls k a0_0 a0_1 true _ A6.out).mono ?_); rintro e w10 ⟨rfl, hb⟩; refine ⟨_, rfl, ?_⟩; replace BK661 := kb BK661 hb; replace BK662 := kb BK662 hb; replace HB := Aside0.mk (below_step (by repeat first | (with_reducible exact HB.out) | refine bl1 ?_ | (with_reducible refine bset ?_ ‹_›) | exact HB.out) hb); (try clear hb); (try clear hb2); (try clear hk); (try clear hi))); go_meet
   case rel => exact ⟨_, (false), (by first | rfl | (simp; done) | (simp [*]; done)), H', ⟨by first | omega | exact Nat.le_refl _⟩, ⟨by refine bk ?_; exact BK661.out⟩, ⟨by refine bk ?_; exact BK662.out⟩, ⟨by repeat first | (with_reducible exact HB.out) | (with_reducible refine bset ?_ ‹_›) | refine bl1 ?_ | exact HB.out⟩⟩
  ·
   replace c7 := Bool.eq_false_iff.mpr c7; subst c7; rw [if_neg (show ¬ (false = true) by decide)] at H; replace H := Option.bind_eq_some_iff.mp H; obtain ⟨t664, A110, H⟩ := H; (try dsimp only at H); have A11 := Aside0.mk A110; clear A110; have H' := Aside0.mk H; clear H; have hnb12 := NB661_662.out; have hnc12 := NB662_661.out; obtain ⟨hcz13_0, hcz13_1⟩ := bc2 BK661.out; obtain ⟨hfz13_0, hfz13_1⟩ := bf2 BK661.out; go_wp2_with (first | ((with_reducible refine gate_callee (f := 19) rfl ?_); refine goesL_ (some 8) rfl rfl Tryd.func19 (by kernel_rfl) rfl #[.agg #[.int .i64 a0_0, .int .i64 a0_1]] rfl (by (try simp only [mp]); first | done | rfl | (simp only [ld]; rfl)) ?_; (with_reducible refine (serinetteref01_Is.calls k a0_0 a0_1 false _ A6.out).mono ?_); rintro e w14 ⟨rfl, hb⟩; refine ⟨_, rfl, ?_⟩; replace BK661 := kb BK661 hb; replace BK662 := kb BK662 hb; replace HB := Aside0.mk (below_step (by repeat first | (with_reducible exact HB.out) | refine bl1 ?_ | (with_reducible refine bset ?_ ‹_›) | exact HB.out) hb); (try clear hb); (try clear hb2); (try clear hk); (try clear hi); obtain ⟨hcz15_0, hcz15_1⟩ := bc2 BK662.out; obtain ⟨hfz15_0, hfz15_1⟩ := bf2 BK662.out) | (go_at_call 19; (with_reducible refine (serinetteref01_Is.calls k a1_0 a1_1 t664 _ A11.out).mono ?_); rintro e w16 ⟨rfl, hb⟩; replace BK661 := kb BK661 hb; replace BK662 := kb BK662 hb; replace HB := Aside0.mk (below_step (by repeat first | (with_reducible exact HB.out) | refine bl1 ?_ | (with_reducible refine bset ?_ ‹_›) | exact HB.out) hb); (try clear hb); (try clear hb2); (try clear hk); (try clear hi))); go_meet
   case rel => exact ⟨_, (!t664), (by first | rfl | (simp; done) | (simp [*]; done)), H', ⟨by first | omega | exact Nat.le_refl _⟩, ⟨by refine bk ?_; exact BK661.out⟩, ⟨by refine bk ?_; exact BK662.out⟩, ⟨by repeat first | (with_reducible exact HB.out) | (with_reducible refine bset ?_ ‹_›) | refine bl1 ?_ | exact HB.out⟩⟩
 case rest =>
  clear HC3; (try clear c1); (try clear c2); (try clear p2); (try clear c7); (try clear c8); (try clear c12); (try clear hcz13_0); (try clear hcz13_1); (try clear hcz15_0); (try clear hcz15_1); (try clear hcz9_0); (try clear hcz9_1); (try clear hfz13_0); (try clear hfz13_1); (try clear hfz15_0); (try clear hfz15_1); (try clear hfz9_0); (try clear hfz9_1); obtain ⟨kq, x14_2, rfl, HA, HJ2, BK661, BK662, HB⟩ := hcut; cases kq with
  | zero => exact absurd HA.out (by simp [serinetteref01_Cmp.j0])
  | succ kj2 =>
   have H := HA.out; clear HA; simp only [serinetteref01_Cmp.j0] at H; by_cases c17 : x14_2 = true
   · subst c17; rw [if_pos rfl] at H; obtain rfl := Option.some.inj H; go_wp2; go_ret; exact ⟨by first | rfl | (simp [errW_none, errW_some] <;> rfl) | (simp [*, errW_none, errW_some] <;> rfl), by repeat first | (with_reducible exact HB.out) | (with_reducible refine bset ?_ ‹_›) | refine bl1 ?_ | exact HB.out⟩
   ·
    replace c17 := Bool.eq_false_iff.mpr c17; subst c17; rw [if_neg (show ¬ (false = true) by decide)] at H; replace H := Option.bind_eq_some_iff.mp H; obtain ⟨t665, A180, H⟩ := H; (try dsimp only at H); have A18 := Aside0.mk A180; clear A180; by_cases c19 : t665 = true
    ·
     subst c19; rw [if_pos rfl] at H; replace H := Option.bind_eq_some_iff.mp H; obtain ⟨t666, A200, H⟩ := H; (try dsimp only at H); have A20 := Aside0.mk A200; clear A200; by_cases c21 : t666 = true
     ·
      subst c21; rw [if_pos rfl] at H; by_cases c22 : (wrap64 (a0_0 * a1_1)) < (wrap64 (a1_0 * a0_1))
      · rw [if_pos c22] at H; have c22b0 : decide ((wrap64 (a0_0 * a1_1)) < (wrap64 (a1_0 * a0_1))) = true := decide_eq_true c22; clear c22; obtain rfl := Option.some.inj H; have hnb23 := NB661_662.out; have hnc23 := NB662_661.out; obtain ⟨hcz24_0, hcz24_1⟩ := bc2 BK661.out; obtain ⟨hfz24_0, hfz24_1⟩ := bf2 BK661.out; go_wp2_with (first | ((with_reducible refine gate_callee (f := 19) rfl ?_); refine goesL_ (some 16) rfl rfl Tryd.func19 (by kernel_rfl) rfl #[.agg #[.int .i64 a0_0, .int .i64 a0_1]] rfl (by (try simp only [mp]); first | done | rfl | (simp only [ld]; rfl)) ?_; (with_reducible refine (serinetteref01_Is.calls kj2 a0_0 a0_1 true _ A18.out).mono ?_); rintro e w25 ⟨rfl, hb⟩; refine ⟨_, rfl, ?_⟩; replace BK661 := kb BK661 hb; replace BK662 := kb BK662 hb; replace HB := Aside0.mk (below_step (by repeat first | (with_reducible exact HB.out) | refine bl1 ?_ | (with_reducible refine bset ?_ ‹_›) | exact HB.out) hb); (try clear hb); (try clear hb2); (try clear hk); (try clear hi); obtain ⟨hcz26_0, hcz26_1⟩ := bc2 BK662.out; obtain ⟨hfz26_0, hfz26_1⟩ := bf2 BK662.out) | ((with_reducible refine gate_callee (f := 19) rfl ?_); refine goesL_ (some 19) rfl rfl Tryd.func19 (by kernel_rfl) rfl #[.agg #[.int .i64 a1_0, .int .i64 a1_1]] rfl (by (try simp only [mp]); first | done | rfl | (simp only [ld]; rfl)) ?_; (with_reducible refine (serinetteref01_Is.calls kj2 a1_0 a1_1 true _ A20.out).mono ?_); rintro e w27 ⟨rfl, hb⟩; refine ⟨_, rfl, ?_⟩; replace BK661 := kb BK661 hb; replace BK662 := kb BK662 hb; replace HB := Aside0.mk (below_step (by repeat first | (with_reducible exact HB.out) | refine bl1 ?_ | (with_reducible refine bset ?_ ‹_›) | exact HB.out) hb); (try clear hb); (try clear hb2); (try clear hk); (try clear hi); obtain ⟨hcz28_0, hcz28_1⟩ := bc2 BK661.out; obtain ⟨hfz28_0, hfz28_1⟩ := bf2 BK661.out; obtain ⟨hcz29_0, hcz29_1⟩ := bc2 BK662.out; obtain ⟨hfz29_0, hfz29_1⟩ := bf2 BK662.out)); go_ret; exact ⟨by first | rfl | (simp [errW_none, errW_some] <;> rfl) | (simp [*, errW_none, errW_some] <;> rfl), by repeat first | (with_reducible exact HB.out) | (with_reducible refine bset ?_ ‹_›) | refine bl1 ?_ | exact HB.out⟩
      ·
       rw [if_neg c22] at H; have c22b0 : decide ((wrap64 (a0_0 * a1_1)) < (wrap64 (a1_0 * a0_1))) = false := decide_eq_false c22; clear c22; by_cases c30 : (wrap64 (a0_0 * a1_1)) > (wrap64 (a1_0 * a0_1))
       · rw [if_pos c30] at H; have c30b0 : decide ((wrap64 (a1_0 * a0_1)) < (wrap64 (a0_0 * a1_1))) = true := decide_eq_true c30; clear c30; obtain rfl := Option.some.inj H; have hnb31 := NB661_662.out; have hnc31 := NB662_661.out; obtain ⟨hcz32_0, hcz32_1⟩ := bc2 BK661.out; obtain ⟨hfz32_0, hfz32_1⟩ := bf2 BK661.out; go_wp2_with (first | ((with_reducible refine gate_callee (f := 19) rfl ?_); refine goesL_ (some 16) rfl rfl Tryd.func19 (by kernel_rfl) rfl #[.agg #[.int .i64 a0_0, .int .i64 a0_1]] rfl (by (try simp only [mp]); first | done | rfl | (simp only [ld]; rfl)) ?_; (with_reducible refine (serinetteref01_Is.calls kj2 a0_0 a0_1 true _ A18.out).mono ?_); rintro e w33 ⟨rfl, hb⟩; refine ⟨_, rfl, ?_⟩; replace BK661 := kb BK661 hb; replace BK662 := kb BK662 hb; replace HB := Aside0.mk (below_step (by repeat first | (with_reducible exact HB.out) | refine bl1 ?_ | (with_reducible refine bset ?_ ‹_›) | exact HB.out) hb); (try clear hb); (try clear hb2); (try clear hk); (try clear hi); obtain ⟨hcz34_0, hcz34_1⟩ := bc2 BK662.out; obtain ⟨hfz34_0, hfz34_1⟩ := bf2 BK662.out) | ((with_reducible refine gate_callee (f := 19) rfl ?_); refine goesL_ (some 19) rfl rfl Tryd.func19 (by kernel_rfl) rfl #[.agg #[.int .i64 a1_0, .int .i64 a1_1]] rfl (by (try simp only [mp]); first | done | rfl | (simp only [ld]; rfl)) ?_; (with_reducible refine (serinetteref01_Is.calls kj2 a1_0 a1_1 true _ A20.out).mono ?_); rintro e w35 ⟨rfl, hb⟩; refine ⟨_, rfl, ?_⟩; replace BK661 := kb BK661 hb; replace BK662 := kb BK662 hb; replace HB := Aside0.mk (below_step (by repeat first | (with_reducible exact HB.out) | refine bl1 ?_ | (with_reducible refine bset ?_ ‹_›) | exact HB.out) hb); (try clear hb); (try clear hb2); (try clear hk); (try clear hi); obtain ⟨hcz36_0, hcz36_1⟩ := bc2 BK661.out; obtain ⟨hfz36_0, hfz36_1⟩ := bf2 BK661.out; obtain ⟨hcz37_0, hcz37_1⟩ := bc2 BK662.out; obtain ⟨hfz37_0, hfz37_1⟩ := bf2 BK662.out)); go_ret; exact ⟨by first | rfl | (simp [errW_none, errW_some] <;> rfl) | (simp [*, errW_none, errW_some] <;> rfl), by repeat first | (with_reducible exact HB.out) | (with_reducible refine bset ?_ ‹_›) | refine bl1 ?_ | exact HB.out⟩
       · rw [if_neg c30] at H; have c30b0 : decide ((wrap64 (a1_0 * a0_1)) < (wrap64 (a0_0 * a1_1))) = false := decide_eq_false c30; clear c30; obtain rfl := Option.some.inj H; have hnb38 := NB661_662.out; have hnc38 := NB662_661.out; obtain ⟨hcz39_0, hcz39_1⟩ := bc2 BK661.out; obtain ⟨hfz39_0, hfz39_1⟩ := bf2 BK661.out; go_wp2_with (first | ((with_reducible refine gate_callee (f := 19) rfl ?_); refine goesL_ (some 16) rfl rfl Tryd.func19 (by kernel_rfl) rfl #[.agg #[.int .i64 a0_0, .int .i64 a0_1]] rfl (by (try simp only [mp]); first | done | rfl | (simp only [ld]; rfl)) ?_; (with_reducible refine (serinetteref01_Is.calls kj2 a0_0 a0_1 true _ A18.out).mono ?_); rintro e w40 ⟨rfl, hb⟩; refine ⟨_, rfl, ?_⟩; replace BK661 := kb BK661 hb; replace BK662 := kb BK662 hb; replace HB := Aside0.mk (below_step (by repeat first | (with_reducible exact HB.out) | refine bl1 ?_ | (with_reducible refine bset ?_ ‹_›) | exact HB.out) hb); (try clear hb); (try clear hb2); (try clear hk); (try clear hi); obtain ⟨hcz41_0, hcz41_1⟩ := bc2 BK662.out; obtain ⟨hfz41_0, hfz41_1⟩ := bf2 BK662.out) | ((with_reducible refine gate_callee (f := 19) rfl ?_); refine goesL_ (some 19) rfl rfl Tryd.func19 (by kernel_rfl) rfl #[.agg #[.int .i64 a1_0, .int .i64 a1_1]] rfl (by (try simp only [mp]); first | done | rfl | (simp only [ld]; rfl)) ?_; (with_reducible refine (serinetteref01_Is.calls kj2 a1_0 a1_1 true _ A20.out).mono ?_); rintro e w42 ⟨rfl, hb⟩; refine ⟨_, rfl, ?_⟩; replace BK661 := kb BK661 hb; replace BK662 := kb BK662 hb; replace HB := Aside0.mk (below_step (by repeat first | (with_reducible exact HB.out) | refine bl1 ?_ | (with_reducible refine bset ?_ ‹_›) | exact HB.out) hb); (try clear hb); (try clear hb2); (try clear hk); (try clear hi); obtain ⟨hcz43_0, hcz43_1⟩ := bc2 BK661.out; obtain ⟨hfz43_0, hfz43_1⟩ := bf2 BK661.out; obtain ⟨hcz44_0, hcz44_1⟩ := bc2 BK662.out; obtain ⟨hfz44_0, hfz44_1⟩ := bf2 BK662.out)); go_ret; exact ⟨by first | rfl | (simp [errW_none, errW_some] <;> rfl) | (simp [*, errW_none, errW_some] <;> rfl), by repeat first | (with_reducible exact HB.out) | (with_reducible refine bset ?_ ‹_›) | refine bl1 ?_ | exact HB.out⟩
     · replace c21 := Bool.eq_false_iff.mpr c21; subst c21; rw [if_neg (show ¬ (false = true) by decide)] at H; obtain rfl := Option.some.inj H; have hnb45 := NB661_662.out; have hnc45 := NB662_661.out; obtain ⟨hcz46_0, hcz46_1⟩ := bc2 BK661.out; obtain ⟨hfz46_0, hfz46_1⟩ := bf2 BK661.out; go_wp2_with (first | ((with_reducible refine gate_callee (f := 19) rfl ?_); refine goesL_ (some 16) rfl rfl Tryd.func19 (by kernel_rfl) rfl #[.agg #[.int .i64 a0_0, .int .i64 a0_1]] rfl (by (try simp only [mp]); first | done | rfl | (simp only [ld]; rfl)) ?_; (with_reducible refine (serinetteref01_Is.calls kj2 a0_0 a0_1 true _ A18.out).mono ?_); rintro e w47 ⟨rfl, hb⟩; refine ⟨_, rfl, ?_⟩; replace BK661 := kb BK661 hb; replace BK662 := kb BK662 hb; replace HB := Aside0.mk (below_step (by repeat first | (with_reducible exact HB.out) | refine bl1 ?_ | (with_reducible refine bset ?_ ‹_›) | exact HB.out) hb); (try clear hb); (try clear hb2); (try clear hk); (try clear hi); obtain ⟨hcz48_0, hcz48_1⟩ := bc2 BK662.out; obtain ⟨hfz48_0, hfz48_1⟩ := bf2 BK662.out) | ((with_reducible refine gate_callee (f := 19) rfl ?_); refine goesL_ (some 19) rfl rfl Tryd.func19 (by kernel_rfl) rfl #[.agg #[.int .i64 a1_0, .int .i64 a1_1]] rfl (by (try simp only [mp]); first | done | rfl | (simp only [ld]; rfl)) ?_; (with_reducible refine (serinetteref01_Is.calls kj2 a1_0 a1_1 false _ A20.out).mono ?_); rintro e w49 ⟨rfl, hb⟩; refine ⟨_, rfl, ?_⟩; replace BK661 := kb BK661 hb; replace BK662 := kb BK662 hb; replace HB := Aside0.mk (below_step (by repeat first | (with_reducible exact HB.out) | refine bl1 ?_ | (with_reducible refine bset ?_ ‹_›) | exact HB.out) hb); (try clear hb); (try clear hb2); (try clear hk); (try clear hi))); go_ret; exact ⟨by first | rfl | (simp [errW_none, errW_some] <;> rfl) | (simp [*, errW_none, errW_some] <;> rfl), by repeat first | (with_reducible exact HB.out) | (with_reducible refine bset ?_ ‹_›) | refine bl1 ?_ | exact HB.out⟩
    · replace c19 := Bool.eq_false_iff.mpr c19; subst c19; rw [if_neg (show ¬ (false = true) by decide)] at H; obtain rfl := Option.some.inj H; have hnb50 := NB661_662.out; have hnc50 := NB662_661.out; obtain ⟨hcz51_0, hcz51_1⟩ := bc2 BK661.out; obtain ⟨hfz51_0, hfz51_1⟩ := bf2 BK661.out; go_wp2_with (first | ((with_reducible refine gate_callee (f := 19) rfl ?_); refine goesL_ (some 16) rfl rfl Tryd.func19 (by kernel_rfl) rfl #[.agg #[.int .i64 a0_0, .int .i64 a0_1]] rfl (by (try simp only [mp]); first | done | rfl | (simp only [ld]; rfl)) ?_; (with_reducible refine (serinetteref01_Is.calls kj2 a0_0 a0_1 false _ A18.out).mono ?_); rintro e w52 ⟨rfl, hb⟩; refine ⟨_, rfl, ?_⟩; replace BK661 := kb BK661 hb; replace BK662 := kb BK662 hb; replace HB := Aside0.mk (below_step (by repeat first | (with_reducible exact HB.out) | refine bl1 ?_ | (with_reducible refine bset ?_ ‹_›) | exact HB.out) hb); (try clear hb); (try clear hb2); (try clear hk); (try clear hi))); go_ret; exact ⟨by first | rfl | (simp [errW_none, errW_some] <;> rfl) | (simp [*, errW_none, errW_some] <;> rfl), by repeat first | (with_reducible exact HB.out) | (with_reducible refine bset ?_ ‹_›) | refine bl1 ?_ | exact HB.out⟩
def serinetteref01_Valid.f (k : Nat) (a0_0 : Int) (a0_1 : Int) : Option (Bool) := (serinetteref01_Is.f k a0_0 a0_1).bind fun t668 => (if t668 = true then (some true) else (if a0_0 = 0 then (some (a0_1 == 0)) else (some false)))
theorem serinetteref01_Valid.mono : ∀ a0 a1 k, LeO (serinetteref01_Valid.f k a0 a1) (serinetteref01_Valid.f (k + 1) a0 a1) := by
 intro a0 a1 k
 unfold serinetteref01_Valid.f
 repeat' first
   | (with_reducible exact serinetteref01_Is.mono _ _ _)
   | (with_reducible exact LeO.refl _)
   | (with_reducible exact LeO.none _)
   | (with_reducible refine LeO.ite ?_ ?_)
   | (with_reducible refine LeO.bind ?_ (fun _ => ?_))
   | exact serinetteref01_Is.mono _ _ _
   | exact LeO.none _
   | refine LeO.ite ?_ ?_
   | refine LeO.bind ?_ (fun _ => ?_)
set_option maxHeartbeats 8000000 in
set_option maxRecDepth 100000 in
theorem serinetteref01_Valid.calls (k : Nat) (a0_0 : Int) (a0_1 : Int) (r : Bool) (w : World) (h : serinetteref01_Valid.f k a0_0 a0_1 = some r) :
  Calls Tryd.prog 70 #[.agg #[.int .i64 a0_0, .int .i64 a0_1]] w fun e w' => e = .returned (.bool r) ∧ Below w.heap.size w w' := by
 have hu23 := Tryd.underlying23; have HB := Aside0.mk (Below.refl w.heap.size w); have H : ((serinetteref01_Is.f k a0_0 a0_1).bind fun t668 => (if t668 = true then (some true) else (if a0_0 = 0 then (some (a0_1 == 0)) else (some false)))) = some r := h; clear h; replace H := Option.bind_eq_some_iff.mp H; obtain ⟨t668, A20, H⟩ := H; (try dsimp only at H); have A2 := Aside0.mk A20; clear A20; by_cases c3 : t668 = true
 · subst c3; rw [if_pos rfl] at H; obtain rfl := Option.some.inj H; go_enter Tryd.func70, Tryd.ntmps70; go_wp2_with (first | ((with_reducible refine gate_dst (N := 1) rfl ?_); refine box_event ?hg (N := 1) ?hd (cs := #[.int .i64 a0_0, .int .i64 a0_1]) (t := 23) ?hr ?_; (case hd => rfl); (case hg => rfl); (case hr => first | (go_simp; done) | (go_simp; rfl)); intro gb667 hg w4 hbox hb; have BK667 := Aside0.mk (hbox); have GW667 := hz_ hg HB; have GE667 := hz_ hg HB; replace HB := hs HB hb; clear hb hbox hg; obtain ⟨hcz5_0, hcz5_1⟩ := bc2 BK667.out; obtain ⟨hfz5_0, hfz5_1⟩ := bf2 BK667.out) | ((with_reducible refine gate_callee (f := 19) rfl ?_); refine goesL_ (some 4) rfl rfl Tryd.func19 (by kernel_rfl) rfl #[.agg #[.int .i64 a0_0, .int .i64 a0_1]] rfl (by (try simp only [mp]); first | done | rfl | (simp only [ld]; rfl)) ?_; (with_reducible refine (serinetteref01_Is.calls k a0_0 a0_1 true _ A2.out).mono ?_); rintro e w6 ⟨rfl, hb⟩; refine ⟨_, rfl, ?_⟩; replace BK667 := kb BK667 hb; replace HB := Aside0.mk (below_step (by repeat first | (with_reducible exact HB.out) | refine bl1 ?_ | (with_reducible refine bset ?_ ‹_›) | exact HB.out) hb); (try clear hb); (try clear hb2); (try clear hk); (try clear hi))); go_ret; exact ⟨by first | rfl | (simp [errW_none, errW_some] <;> rfl) | (simp [*, errW_none, errW_some] <;> rfl), by repeat first | (with_reducible exact HB.out) | (with_reducible refine bset ?_ ‹_›) | refine bl1 ?_ | exact HB.out⟩
 ·
  replace c3 := Bool.eq_false_iff.mpr c3; subst c3; rw [if_neg (show ¬ (false = true) by decide)] at H; by_cases c7 : a0_0 = 0
  · rw [if_pos c7] at H; have c7b0 : (a0_0 == 0) = true := beq_iff_eq.mpr c7; have c7b1 : (a0_0 != 0) = false := bne_eq_false_iff_eq.mpr c7; clear c7; obtain rfl := Option.some.inj H; go_enter Tryd.func70, Tryd.ntmps70; go_wp2_with (first | ((with_reducible refine gate_dst (N := 1) rfl ?_); refine box_event ?hg (N := 1) ?hd (cs := #[.int .i64 a0_0, .int .i64 a0_1]) (t := 23) ?hr ?_; (case hd => rfl); (case hg => rfl); (case hr => first | (go_simp; done) | (go_simp; rfl)); intro gb667 hg w8 hbox hb; have BK667 := Aside0.mk (hbox); have GW667 := hz_ hg HB; have GE667 := hz_ hg HB; replace HB := hs HB hb; clear hb hbox hg; obtain ⟨hcz9_0, hcz9_1⟩ := bc2 BK667.out; obtain ⟨hfz9_0, hfz9_1⟩ := bf2 BK667.out) | ((with_reducible refine gate_callee (f := 19) rfl ?_); refine goesL_ (some 4) rfl rfl Tryd.func19 (by kernel_rfl) rfl #[.agg #[.int .i64 a0_0, .int .i64 a0_1]] rfl (by (try simp only [mp]); first | done | rfl | (simp only [ld]; rfl)) ?_; (with_reducible refine (serinetteref01_Is.calls k a0_0 a0_1 false _ A2.out).mono ?_); rintro e w10 ⟨rfl, hb⟩; refine ⟨_, rfl, ?_⟩; replace BK667 := kb BK667 hb; replace HB := Aside0.mk (below_step (by repeat first | (with_reducible exact HB.out) | refine bl1 ?_ | (with_reducible refine bset ?_ ‹_›) | exact HB.out) hb); (try clear hb); (try clear hb2); (try clear hk); (try clear hi); obtain ⟨hcz11_0, hcz11_1⟩ := bc2 BK667.out; obtain ⟨hfz11_0, hfz11_1⟩ := bf2 BK667.out)); go_ret; exact ⟨by first | rfl | (simp [errW_none, errW_some] <;> rfl) | (simp [*, errW_none, errW_some] <;> rfl), by repeat first | (with_reducible exact HB.out) | (with_reducible refine bset ?_ ‹_›) | refine bl1 ?_ | exact HB.out⟩
  · rw [if_neg c7] at H; have c7b0 : (a0_0 == 0) = false := beq_eq_false_iff_ne.mpr c7; have c7b1 : (a0_0 != 0) = true := bne_iff_ne.mpr c7; obtain rfl := Option.some.inj H; go_enter Tryd.func70, Tryd.ntmps70; go_wp2_with (first | ((with_reducible refine gate_dst (N := 1) rfl ?_); refine box_event ?hg (N := 1) ?hd (cs := #[.int .i64 a0_0, .int .i64 a0_1]) (t := 23) ?hr ?_; (case hd => rfl); (case hg => rfl); (case hr => first | (go_simp; done) | (go_simp; rfl)); intro gb667 hg w12 hbox hb; have BK667 := Aside0.mk (hbox); have GW667 := hz_ hg HB; have GE667 := hz_ hg HB; replace HB := hs HB hb; clear hb hbox hg; obtain ⟨hcz13_0, hcz13_1⟩ := bc2 BK667.out; obtain ⟨hfz13_0, hfz13_1⟩ := bf2 BK667.out) | ((with_reducible refine gate_callee (f := 19) rfl ?_); refine goesL_ (some 4) rfl rfl Tryd.func19 (by kernel_rfl) rfl #[.agg #[.int .i64 a0_0, .int .i64 a0_1]] rfl (by (try simp only [mp]); first | done | rfl | (simp only [ld]; rfl)) ?_; (with_reducible refine (serinetteref01_Is.calls k a0_0 a0_1 false _ A2.out).mono ?_); rintro e w14 ⟨rfl, hb⟩; refine ⟨_, rfl, ?_⟩; replace BK667 := kb BK667 hb; replace HB := Aside0.mk (below_step (by repeat first | (with_reducible exact HB.out) | refine bl1 ?_ | (with_reducible refine bset ?_ ‹_›) | exact HB.out) hb); (try clear hb); (try clear hb2); (try clear hk); (try clear hi); obtain ⟨hcz15_0, hcz15_1⟩ := bc2 BK667.out; obtain ⟨hfz15_0, hfz15_1⟩ := bf2 BK667.out)); go_ret; exact ⟨by first | rfl | (simp [errW_none, errW_some] <;> rfl) | (simp [*, errW_none, errW_some] <;> rfl), by repeat first | (with_reducible exact HB.out) | (with_reducible refine bset ?_ ‹_›) | refine bl1 ?_ | exact HB.out⟩
def serinetteref03_Valid.j0 : Nat → Bool → Int → Int → Int → Int → Int → Bool → Bool → Option (Bool)
 | 0, _, _, _, _, _, _, _, _ => none
 | k + 1, x39, x670000, x670001, x670002, x670003, x670004, x670005, x670006 => if x39 = true then (some false) else ((serinetteref01_Is.f k x670000 x670001).bind fun t676 => (if t676 = true then ((serinetteref01_Is.f k x670002 x670003).bind fun t677 => (if t677 = true then ((serinetteref01_Cmp.f k x670000 x670001 x670002 x670003).bind fun t678 => (some (decide (t678 ≤ 0)))) else (some true))) else (some true)))
def serinetteref03_Valid.f (k : Nat) (a0_0 : Int) (a0_1 : Int) (a0_2 : Int) (a0_3 : Int) (a0_4 : Int) (a0_5 : Bool) (a0_6 : Bool) : Option (Bool) := if a0_6 = true then ((serinetteref01_None.f).bind fun bt670 => (if (a0_0 == bt670.1 && (a0_1 == bt670.2)) = true then ((serinetteref01_None.f).bind fun bt672 => (if (a0_2 == bt672.1 && (a0_3 == bt672.2)) = true then (some (a0_4 == 0)) else (some false))) else (some false))) else ((serinetteref01_Valid.f k a0_0 a0_1).bind fun t674 => (if t674 = true then ((serinetteref01_Valid.f k a0_2 a0_3).bind fun t675 => (if t675 = true then (if a0_4 < 0 then (serinetteref03_Valid.j0 k true a0_0 a0_1 a0_2 a0_3 a0_4 a0_5 a0_6) else (serinetteref03_Valid.j0 k (decide (a0_4 > 1073741824)) a0_0 a0_1 a0_2 a0_3 a0_4 a0_5 a0_6)) else (serinetteref03_Valid.j0 k true a0_0 a0_1 a0_2 a0_3 a0_4 a0_5 a0_6))) else (serinetteref03_Valid.j0 k true a0_0 a0_1 a0_2 a0_3 a0_4 a0_5 a0_6)))
theorem serinetteref03_Valid.mono_l : ∀ k, (∀ y0 y1 y2 y3 y4 y5 y6 y7, LeO (serinetteref03_Valid.j0 k y0 y1 y2 y3 y4 y5 y6 y7) (serinetteref03_Valid.j0 (k + 1) y0 y1 y2 y3 y4 y5 y6 y7))
 | 0 => fun _ _ _ _ _ _ _ _ r h => by simp [serinetteref03_Valid.j0] at h
 | k + 1 => by
  have ih0 := serinetteref03_Valid.mono_l k
  ·
   intro y0 y1 y2 y3 y4 y5 y6 y7
   unfold serinetteref03_Valid.j0
   repeat' first
   | (with_reducible exact ih0 _ _ _ _ _ _ _ _)
   | (with_reducible exact serinetteref01_Cmp.mono _ _ _ _ _)
   | (with_reducible exact serinetteref01_Is.mono _ _ _)
   | (with_reducible exact serinetteref01_Valid.mono _ _ _)
   | (with_reducible exact LeO.refl _)
   | (with_reducible exact LeO.none _)
   | (with_reducible refine LeO.ite ?_ ?_)
   | (with_reducible refine LeO.bind ?_ (fun _ => ?_))
   | exact ih0 _ _ _ _ _ _ _ _
   | exact serinetteref01_Cmp.mono _ _ _ _ _
   | exact serinetteref01_Is.mono _ _ _
   | exact serinetteref01_Valid.mono _ _ _
   | exact LeO.none _
   | refine LeO.ite ?_ ?_
   | refine LeO.bind ?_ (fun _ => ?_)
theorem serinetteref03_Valid.mono : ∀ a0 a1 a2 a3 a4 a5 a6 k, LeO (serinetteref03_Valid.f k a0 a1 a2 a3 a4 a5 a6) (serinetteref03_Valid.f (k + 1) a0 a1 a2 a3 a4 a5 a6) := by
 intro a0 a1 a2 a3 a4 a5 a6 k
 have ih0 := serinetteref03_Valid.mono_l k
 unfold serinetteref03_Valid.f
 repeat' first
   | (with_reducible exact ih0 _ _ _ _ _ _ _ _)
   | (with_reducible exact serinetteref01_Cmp.mono _ _ _ _ _)
   | (with_reducible exact serinetteref01_Is.mono _ _ _)
   | (with_reducible exact serinetteref01_Valid.mono _ _ _)
   | (with_reducible exact LeO.refl _)
   | (with_reducible exact LeO.none _)
   | (with_reducible refine LeO.ite ?_ ?_)
   | (with_reducible refine LeO.bind ?_ (fun _ => ?_))
   | exact ih0 _ _ _ _ _ _ _ _
   | exact serinetteref01_Cmp.mono _ _ _ _ _
   | exact serinetteref01_Is.mono _ _ _
   | exact serinetteref01_Valid.mono _ _ _
   | exact LeO.none _
   | refine LeO.ite ?_ ?_
   | refine LeO.bind ?_ (fun _ => ?_)
def serinetteref03_Valid.T2 : Bool × List (List Nat × List Nat) := (true, [([], []), ([0], [0]), ([], []), ([1, 2], [1, 2]), ([3, 2], [3]), ([4], [4]), ([5, 4], [4, 5]), ([4, 4], [4]), ([6, 7, 4], [4, 6, 7]), ([4, 8], [4, 8]), ([9, 7], [9]), ([10], [10]), ([11, 10], [10, 11]), ([12, 10], [10, 12]), ([10, 13], [10, 13]), ([14, 10, 0, 1, 2, 3, 4, 5, 6, 7, 8, 9, 10, 11, 12, 13, 14], [14])])
def serinetteref03_Valid.B2 : List Nat := [0, 1, 0, 7, 15, 31, 63, 31, 255, 511, 1023, 2047, 4095, 8191, 16383, 32767]
theorem serinetteref03_Valid.tab2 : rtab .any (opsOf Tryd.f44 2) = serinetteref03_Valid.T2 := by kernel_rfl
theorem serinetteref03_Valid.bits2 : waitsOk serinetteref03_Valid.T2.2 serinetteref03_Valid.B2 = true := by kernel_rfl
end Go.Proofs.YtlibjgmnookakaaDoor.SSpanNests
namespace Go.Proofs.YtlibjgmnookakaaDoor.SSpanNests
open Go.RowKit Go.Proofs.YtlibjgmnookakaaDoor.Wd.PrintWords Go.Proofs.YtlibjgmnookakaaDoor.Wd.PrintLast Go.Proofs.YtlibjgmnookakaaDoor.Wd.PrintMore
attribute [local go_sem] max2_int min2_int max_two min_two max_three min_three max_four min_four
attribute [local go_sem] max2_int min2_int max_two min_two max_three min_three max_four min_four
attribute [local go_sem] max2_int min2_int max_two min_two max_three min_three max_four min_four
attribute [local go_sem high] eqA23
attribute [local go_sem high] eqA25
set_option maxHeartbeats 8000000 in
set_option maxRecDepth 100000 in
theorem serinetteref03_Valid.calls (k : Nat) (a0_0 : Int) (a0_1 : Int) (a0_2 : Int) (a0_3 : Int) (a0_4 : Int) (a0_5 : Bool) (a0_6 : Bool) (r : Bool) (w : World) (h : serinetteref03_Valid.f k a0_0 a0_1 a0_2 a0_3 a0_4 a0_5 a0_6 = some r) :
  Calls Tryd.prog 44 #[.agg #[.int .i64 a0_0, .int .i64 a0_1, .int .i64 a0_2, .int .i64 a0_3, .int .i64 a0_4, .bool a0_5, .bool a0_6]] w fun e w' => e = .returned (.bool r) ∧ Below w.heap.size w w' := by
 have hu25 := Tryd.underlying25; have hu23 := Tryd.underlying23; have HB := Aside0.mk (Below.refl w.heap.size w); have H : (if a0_6 = true then ((serinetteref01_None.f).bind fun bt670 => (if (a0_0 == bt670.1 && (a0_1 == bt670.2)) = true then ((serinetteref01_None.f).bind fun bt672 => (if (a0_2 == bt672.1 && (a0_3 == bt672.2)) = true then (some (a0_4 == 0)) else (some false))) else (some false))) else ((serinetteref01_Valid.f k a0_0 a0_1).bind fun t674 => (if t674 = true then ((serinetteref01_Valid.f k a0_2 a0_3).bind fun t675 => (if t675 = true then (if a0_4 < 0 then (serinetteref03_Valid.j0 k true a0_0 a0_1 a0_2 a0_3 a0_4 a0_5 a0_6) else (serinetteref03_Valid.j0 k (decide (a0_4 > 1073741824)) a0_0 a0_1 a0_2 a0_3 a0_4 a0_5 a0_6)) else (serinetteref03_Valid.j0 k true a0_0 a0_1 a0_2 a0_3 a0_4 a0_5 a0_6))) else (serinetteref03_Valid.j0 k true a0_0 a0_1 a0_2 a0_3 a0_4 a0_5 a0_6)))) = some r := h; clear h; by_cases c2 : a0_6 = true
 ·
  subst c2; rw [if_pos rfl] at H; replace H := Option.bind_eq_some_iff.mp H; obtain ⟨⟨t670, t671⟩, A30, H⟩ := H; (try dsimp only at H); have A3 := Aside0.mk A30; clear A30; by_cases c4 : (a0_0 == t670 && (a0_1 == t671)) = true
  ·
   rw [if_pos c4] at H; have c4b0 : (a0_0 == t670 && (a0_1 == t671)) = true := c4; (try (have c4b1 : decide (a0_0 = t670 && (a0_1 == t671)) = true := by simpa using c4)); (try (have c4b2 : (a0_0 == t670 && (a0_1 == t671)) = true := by simpa using c4)); clear c4; replace H := Option.bind_eq_some_iff.mp H; obtain ⟨⟨t672, t673⟩, A50, H⟩ := H; (try dsimp only at H); have A5 := Aside0.mk A50; clear A50; by_cases c6 : (a0_2 == t672 && (a0_3 == t673)) = true
   ·
    rw [if_pos c6] at H; have c6b0 : (a0_2 == t672 && (a0_3 == t673)) = true := c6; (try (have c6b1 : decide (a0_2 = t672 && (a0_3 == t673)) = true := by simpa using c6)); (try (have c6b2 : (a0_2 == t672 && (a0_3 == t673)) = true := by simpa using c6)); clear c6; obtain rfl := Option.some.inj H; go_enter Tryd.func44, Tryd.ntmps44; (try go_wp2_with (first | ((with_reducible refine gate_dst (N := 1) rfl ?_); refine box_event ?hg (N := 1) ?hd (cs := #[.int .i64 a0_0, .int .i64 a0_1, .int .i64 a0_2, .int .i64 a0_3, .int .i64 a0_4, .bool a0_5, .bool true]) (t := 25) ?hr ?_; (case hd => rfl); (case hg => rfl); (case hr => first | (go_simp; done) | (go_simp; rfl)); intro gb669 hg w7 hbox hb; have BK669 := Aside0.mk (hbox); have GW669 := hz_ hg HB; have GE669 := hz_ hg HB; replace HB := hs HB hb; clear hb hbox hg; obtain ⟨hcz8_0, hcz8_1, hcz8_2, hcz8_3, hcz8_4, hcz8_5, hcz8_6⟩ := bc7 BK669.out; obtain ⟨hfz8_0, hfz8_1, hfz8_2, hfz8_3, hfz8_4, hfz8_5, hfz8_6⟩ := bf7 BK669.out))); replace BK669 := kd BK669; replace HB := Aside0.mk (below_drew1 HB.out); refine start_ (n := 16) (S := fun w' => w'.cell? ⟨gb669, 0, none⟩ = some (.int .i64 a0_0) ∧ w'.cell? ⟨gb669, 1, none⟩ = some (.int .i64 a0_1) ∧ w'.cell? ⟨gb669, 2, none⟩ = some (.int .i64 a0_2) ∧ w'.cell? ⟨gb669, 3, none⟩ = some (.int .i64 a0_3) ∧ w'.cell? ⟨gb669, 4, none⟩ = some (.int .i64 a0_4) ∧ w'.cell? ⟨gb669, 5, none⟩ = some (.bool a0_5) ∧ w'.cell? ⟨gb669, 6, none⟩ = some (.bool true)) (ds := []) (bA 16 0) (by kernel_rfl) rfl rfl ⟨(blk_cell BK669.out 0).trans rfl, (blk_cell BK669.out 1).trans rfl, (blk_cell BK669.out 2).trans rfl, (blk_cell BK669.out 3).trans rfl, (blk_cell BK669.out 4).trans rfl, (blk_cell BK669.out 5).trans rfl, (blk_cell BK669.out 6).trans rfl⟩ (fun hHeld => ?_); refine with_tabW serinetteref03_Valid.tab2 serinetteref03_Valid.bits2 (fun HT_ HW_ => ?_); generalize w7.drew = w9 at BK669 HB hHeld ⊢; have hH0 := hHeld; have HBW := hbw w9; refine pure_ (i := 0) (N := some 5) (v := ?_) (a' := ?_) (bA 16 1) rfl rfl (any_of HT_.out (by kernel_rfl)) (fun _ _ _ h => h) (Or.inl ⟨by rfl, ?_⟩) ?_ ?_; rotate_left
    · intro w'; go_simp; with_reducible rfl
    rotate_left
    · simp only [ap]; rfl
    refine take_ (i := 1) (N := some 6) (v := ?_) (a' := ?_) (bA 16 3) rfl rfl (take_ofW HT_.out HW_.out (by kernel_rfl)) (fun _ _ _ h => h) (Or.inl ⟨by rfl, ?_⟩) hHeld ?_ ?_; rotate_left
    · rintro w' ⟨s0, s1, s2, s3, s4, s5, s6⟩; go_simp; with_reducible rfl
    rotate_left
    · simp only [ap]; rfl
    refine one_ (i := 2) (N := some 7) (bA 16 7) rfl rfl (one_of HT_.out (by kernel_rfl)) (by decide) (fun K hK => ?_); refine goes_ Tryd.func33 (by kernel_rfl) rfl #[] (by rfl) rfl rfl (by (try simp only [mp]); first | done | rfl | (simp only [ld]; rfl)) ?_; (with_reducible refine (serinetteref01_None.calls  t670 t671 _ A3.out).mono ?_); rintro e w10 ⟨rfl, hb⟩; refine ⟨_, rfl, ?_⟩; replace HBW := hs HBW hb; clear hb; refine hK.out _ _ (hs7 HBW.out hH0) (fun hHeld => ?_); clear hK K; refine norm_ (a' := ?_) ?_ ?_; rotate_left
    · (show Act.put _ (some 7) _ = _); simp only [ap]; rfl
    refine pure_ (i := 3) (N := some 8) (v := ?_) (a' := ?_) (bA 16 15) rfl rfl (any_of HT_.out (by kernel_rfl)) (fun _ _ _ h => h) (Or.inl ⟨by rfl, ?_⟩) ?_ ?_; rotate_left
    · intro w'; go_simp; with_reducible rfl
    rotate_left
    · simp only [ap]; rfl
    refine pure_ (i := 4) (N := some 9) (v := ?_) (a' := ?_) (bA 16 31) rfl rfl (any_of HT_.out (by kernel_rfl)) (fun _ _ _ h => h) (Or.inl ⟨by rfl, ?_⟩) ?_ ?_; rotate_left
    · intro w'; go_simp; with_reducible rfl
    rotate_left
    · simp only [ap]; rfl
    refine pure_ (i := 5) (N := some 10) (v := ?_) (a' := ?_) (bA 16 63) rfl rfl (any_of HT_.out (by kernel_rfl)) (fun _ _ _ h => h) (Or.inl ⟨by rfl, ?_⟩) ?_ ?_; rotate_left
    · intro w'; go_simp; with_reducible rfl
    rotate_left
    · simp only [ap]; rfl
    refine take_ (i := 6) (N := some 11) (v := ?_) (a' := ?_) (bA 16 127) rfl rfl (take_ofW HT_.out HW_.out (by kernel_rfl)) (fun _ _ _ h => h) (Or.inl ⟨by rfl, ?_⟩) hHeld ?_ ?_; rotate_left
    · rintro w' ⟨s0, s1, s2, s3, s4, s5, s6⟩; go_simp; with_reducible rfl
    rotate_left
    · simp only [ap]; rfl
    refine one_ (i := 7) (N := some 12) (bA 16 255) rfl rfl (one_of HT_.out (by kernel_rfl)) (by decide) (fun K hK => ?_); refine goes_ Tryd.func33 (by kernel_rfl) rfl #[] (by rfl) rfl rfl (by (try simp only [mp]); first | done | rfl | (simp only [ld]; rfl)) ?_; (with_reducible refine (serinetteref01_None.calls  t672 t673 _ A5.out).mono ?_); rintro e w11 ⟨rfl, hb⟩; refine ⟨_, rfl, ?_⟩; replace HBW := hs HBW hb; clear hb; refine hK.out _ _ (hs7 HBW.out hH0) (fun hHeld => ?_); clear hK K; refine norm_ (a' := ?_) ?_ ?_; rotate_left
    · (show Act.put _ (some 12) _ = _); simp only [ap]; rfl
    refine pure_ (i := 8) (N := some 13) (v := ?_) (a' := ?_) (bA 16 511) rfl rfl (any_of HT_.out (by kernel_rfl)) (fun _ _ _ h => h) (Or.inl ⟨by rfl, ?_⟩) ?_ ?_; rotate_left
    · intro w'; go_simp; with_reducible rfl
    rotate_left
    · simp only [ap]; rfl
    refine pure_ (i := 9) (N := some 14) (v := ?_) (a' := ?_) (bA 16 1023) rfl rfl (any_of HT_.out (by kernel_rfl)) (fun _ _ _ h => h) (Or.inl ⟨by rfl, ?_⟩) ?_ ?_; rotate_left
    · intro w'; go_simp; with_reducible rfl
    rotate_left
    · simp only [ap]; rfl
    refine pure_ (i := 10) (N := some 15) (v := ?_) (a' := ?_) (bA 16 2047) rfl rfl (any_of HT_.out (by kernel_rfl)) (fun _ _ _ h => h) (Or.inl ⟨by rfl, ?_⟩) ?_ ?_; rotate_left
    · intro w'; go_simp; with_reducible rfl
    rotate_left
    · simp only [ap]; rfl
    refine pure_ (i := 11) (N := some 16) (v := ?_) (a' := ?_) (bA 16 4095) rfl rfl (any_of HT_.out (by kernel_rfl)) (fun _ _ _ h => h) (Or.inl ⟨by rfl, ?_⟩) ?_ ?_; rotate_left
    · intro w'; go_simp; with_reducible rfl
    rotate_left
    · simp only [ap]; rfl
    refine take_ (i := 12) (N := some 17) (v := ?_) (a' := ?_) (bA 16 8191) rfl rfl (take_ofW HT_.out HW_.out (by kernel_rfl)) (fun _ _ _ h => h) (Or.inl ⟨by rfl, ?_⟩) hHeld ?_ ?_; rotate_left
    · rintro w' ⟨s0, s1, s2, s3, s4, s5, s6⟩; go_simp; with_reducible rfl
    rotate_left
    · simp only [ap]; rfl
    refine pure_ (i := 13) (N := some 18) (v := ?_) (a' := ?_) (bA 16 16383) rfl rfl (any_of HT_.out (by kernel_rfl)) (fun _ _ _ h => h) (Or.inl ⟨by rfl, ?_⟩) ?_ ?_; rotate_left
    · intro w'; go_simp; with_reducible rfl
    rotate_left
    · simp only [ap]; rfl
    refine pure_ (i := 14) (N := some 19) (v := ?_) (a' := ?_) (bA 16 32767) rfl rfl (any_of HT_.out (by kernel_rfl)) (fun _ _ _ h => h) (Or.inl ⟨by rfl, ?_⟩) ?_ ?_; rotate_left
    · intro w'; go_simp; with_reducible rfl
    rotate_left
    · simp only [ap]; rfl
    refine pure_ (i := 15) (N := some 2) (v := ?_) (a' := ?_) (bA 16 65535) rfl rfl (any_of HT_.out (by kernel_rfl)) (fun _ _ _ h => h) (Or.inl ⟨by rfl, ?_⟩) ?_ ?_; rotate_left
    · intro w'; go_simp; with_reducible rfl
    rotate_left
    · simp only [ap]; rfl
    replace BK669 := kb BK669 HBW.out; replace HB := hs HB HBW.out; refine done_ (done_of HT_.out (by kernel_rfl)) ?_; clear HBW hH0; (try go_wp2); go_ret; exact ⟨by first | rfl | (simp [errW_none, errW_some] <;> rfl) | (simp [*, errW_none, errW_some] <;> rfl), by repeat first | (with_reducible exact HB.out) | (with_reducible refine bset ?_ ‹_›) | refine bl1 ?_ | exact HB.out⟩
   ·
    rw [if_neg c6] at H; (have c6b0 : (a0_2 == t672 && (a0_3 == t673)) = false := by simpa using c6); (try (have c6b1 : decide (a0_2 = t672 && (a0_3 == t673)) = false := by simpa using c6)); (try (have c6b2 : (a0_2 == t672 && (a0_3 == t673)) = false := by simpa using c6)); (try (have c6b3 : ¬ (a0_2 = t672 && (a0_3 == t673)) := by simpa using c6)); clear c6; obtain rfl := Option.some.inj H; go_enter Tryd.func44, Tryd.ntmps44; (try go_wp2_with (first | ((with_reducible refine gate_dst (N := 1) rfl ?_); refine box_event ?hg (N := 1) ?hd (cs := #[.int .i64 a0_0, .int .i64 a0_1, .int .i64 a0_2, .int .i64 a0_3, .int .i64 a0_4, .bool a0_5, .bool true]) (t := 25) ?hr ?_; (case hd => rfl); (case hg => rfl); (case hr => first | (go_simp; done) | (go_simp; rfl)); intro gb669 hg w12 hbox hb; have BK669 := Aside0.mk (hbox); have GW669 := hz_ hg HB; have GE669 := hz_ hg HB; replace HB := hs HB hb; clear hb hbox hg; obtain ⟨hcz13_0, hcz13_1, hcz13_2, hcz13_3, hcz13_4, hcz13_5, hcz13_6⟩ := bc7 BK669.out; obtain ⟨hfz13_0, hfz13_1, hfz13_2, hfz13_3, hfz13_4, hfz13_5, hfz13_6⟩ := bf7 BK669.out))); replace BK669 := kd BK669; replace HB := Aside0.mk (below_drew1 HB.out); refine start_ (n := 16) (S := fun w' => w'.cell? ⟨gb669, 0, none⟩ = some (.int .i64 a0_0) ∧ w'.cell? ⟨gb669, 1, none⟩ = some (.int .i64 a0_1) ∧ w'.cell? ⟨gb669, 2, none⟩ = some (.int .i64 a0_2) ∧ w'.cell? ⟨gb669, 3, none⟩ = some (.int .i64 a0_3) ∧ w'.cell? ⟨gb669, 4, none⟩ = some (.int .i64 a0_4) ∧ w'.cell? ⟨gb669, 5, none⟩ = some (.bool a0_5) ∧ w'.cell? ⟨gb669, 6, none⟩ = some (.bool true)) (ds := []) (bA 16 0) (by kernel_rfl) rfl rfl ⟨(blk_cell BK669.out 0).trans rfl, (blk_cell BK669.out 1).trans rfl, (blk_cell BK669.out 2).trans rfl, (blk_cell BK669.out 3).trans rfl, (blk_cell BK669.out 4).trans rfl, (blk_cell BK669.out 5).trans rfl, (blk_cell BK669.out 6).trans rfl⟩ (fun hHeld => ?_); refine with_tabW serinetteref03_Valid.tab2 serinetteref03_Valid.bits2 (fun HT_ HW_ => ?_); generalize w12.drew = w14 at BK669 HB hHeld ⊢; have hH0 := hHeld; have HBW := hbw w14; refine pure_ (i := 0) (N := some 5) (v := ?_) (a' := ?_) (bA 16 1) rfl rfl (any_of HT_.out (by kernel_rfl)) (fun _ _ _ h => h) (Or.inl ⟨by rfl, ?_⟩) ?_ ?_; rotate_left
    · intro w'; go_simp; with_reducible rfl
    rotate_left
    · simp only [ap]; rfl
    refine take_ (i := 1) (N := some 6) (v := ?_) (a' := ?_) (bA 16 3) rfl rfl (take_ofW HT_.out HW_.out (by kernel_rfl)) (fun _ _ _ h => h) (Or.inl ⟨by rfl, ?_⟩) hHeld ?_ ?_; rotate_left
    · rintro w' ⟨s0, s1, s2, s3, s4, s5, s6⟩; go_simp; with_reducible rfl
    rotate_left
    · simp only [ap]; rfl
    refine one_ (i := 2) (N := some 7) (bA 16 7) rfl rfl (one_of HT_.out (by kernel_rfl)) (by decide) (fun K hK => ?_); refine goes_ Tryd.func33 (by kernel_rfl) rfl #[] (by rfl) rfl rfl (by (try simp only [mp]); first | done | rfl | (simp only [ld]; rfl)) ?_; (with_reducible refine (serinetteref01_None.calls  t670 t671 _ A3.out).mono ?_); rintro e w15 ⟨rfl, hb⟩; refine ⟨_, rfl, ?_⟩; replace HBW := hs HBW hb; clear hb; refine hK.out _ _ (hs7 HBW.out hH0) (fun hHeld => ?_); clear hK K; refine norm_ (a' := ?_) ?_ ?_; rotate_left
    · (show Act.put _ (some 7) _ = _); simp only [ap]; rfl
    refine pure_ (i := 3) (N := some 8) (v := ?_) (a' := ?_) (bA 16 15) rfl rfl (any_of HT_.out (by kernel_rfl)) (fun _ _ _ h => h) (Or.inl ⟨by rfl, ?_⟩) ?_ ?_; rotate_left
    · intro w'; go_simp; with_reducible rfl
    rotate_left
    · simp only [ap]; rfl
    refine pure_ (i := 4) (N := some 9) (v := ?_) (a' := ?_) (bA 16 31) rfl rfl (any_of HT_.out (by kernel_rfl)) (fun _ _ _ h => h) (Or.inl ⟨by rfl, ?_⟩) ?_ ?_; rotate_left
    · intro w'; go_simp; with_reducible rfl
    rotate_left
    · simp only [ap]; rfl
    refine pure_ (i := 5) (N := some 10) (v := ?_) (a' := ?_) (bA 16 63) rfl rfl (any_of HT_.out (by kernel_rfl)) (fun _ _ _ h => h) (Or.inl ⟨by rfl, ?_⟩) ?_ ?_; rotate_left
    · intro w'; go_simp; with_reducible rfl
    rotate_left
    · simp only [ap]; rfl
    refine take_ (i := 6) (N := some 11) (v := ?_) (a' := ?_) (bA 16 127) rfl rfl (take_ofW HT_.out HW_.out (by kernel_rfl)) (fun _ _ _ h => h) (Or.inl ⟨by rfl, ?_⟩) hHeld ?_ ?_; rotate_left
    · rintro w' ⟨s0, s1, s2, s3, s4, s5, s6⟩; go_simp; with_reducible rfl
    rotate_left
    · simp only [ap]; rfl
    refine one_ (i := 7) (N := some 12) (bA 16 255) rfl rfl (one_of HT_.out (by kernel_rfl)) (by decide) (fun K hK => ?_); refine goes_ Tryd.func33 (by kernel_rfl) rfl #[] (by rfl) rfl rfl (by (try simp only [mp]); first | done | rfl | (simp only [ld]; rfl)) ?_; (with_reducible refine (serinetteref01_None.calls  t672 t673 _ A5.out).mono ?_); rintro e w16 ⟨rfl, hb⟩; refine ⟨_, rfl, ?_⟩; replace HBW := hs HBW hb; clear hb; refine hK.out _ _ (hs7 HBW.out hH0) (fun hHeld => ?_); clear hK K; refine norm_ (a' := ?_) ?_ ?_; rotate_left
    · (show Act.put _ (some 12) _ = _); simp only [ap]; rfl
    refine pure_ (i := 8) (N := some 13) (v := ?_) (a' := ?_) (bA 16 511) rfl rfl (any_of HT_.out (by kernel_rfl)) (fun _ _ _ h => h) (Or.inl ⟨by rfl, ?_⟩) ?_ ?_; rotate_left
    · intro w'; go_simp; with_reducible rfl
    rotate_left
    · simp only [ap]; rfl
    refine pure_ (i := 9) (N := some 14) (v := ?_) (a' := ?_) (bA 16 1023) rfl rfl (any_of HT_.out (by kernel_rfl)) (fun _ _ _ h => h) (Or.inl ⟨by rfl, ?_⟩) ?_ ?_; rotate_left
    · intro w'; go_simp; with_reducible rfl
    rotate_left
    · simp only [ap]; rfl
    refine pure_ (i := 10) (N := some 15) (v := ?_) (a' := ?_) (bA 16 2047) rfl rfl (any_of HT_.out (by kernel_rfl)) (fun _ _ _ h => h) (Or.inl ⟨by rfl, ?_⟩) ?_ ?_; rotate_left
    · intro w'; go_simp; with_reducible rfl
    rotate_left
    · simp only [ap]; rfl
    refine pure_ (i := 11) (N := some 16) (v := undef) (a' := ?_) (bA 16 4095) rfl rfl (any_of HT_.out (by kernel_rfl)) (fun _ _ _ h => h) (Or.inr ⟨by rfl, rfl⟩) ?_ ?_; rotate_left
    · simp only [ap]; rfl
    refine pure_ (i := 12) (N := some 17) (v := undef) (a' := ?_) (bA 16 8191) rfl rfl (any_of HT_.out (by kernel_rfl)) (fun _ _ _ h => h) (Or.inr ⟨by rfl, rfl⟩) ?_ ?_; rotate_left
    · simp only [ap]; rfl
    refine pure_ (i := 13) (N := some 18) (v := undef) (a' := ?_) (bA 16 16383) rfl rfl (any_of HT_.out (by kernel_rfl)) (fun _ _ _ h => h) (Or.inr ⟨by rfl, rfl⟩) ?_ ?_; rotate_left
    · simp only [ap]; rfl
    refine pure_ (i := 14) (N := some 19) (v := ?_) (a' := ?_) (bA 16 32767) rfl rfl (any_of HT_.out (by kernel_rfl)) (fun _ _ _ h => h) (Or.inl ⟨by rfl, ?_⟩) ?_ ?_; rotate_left
    · intro w'; go_simp; with_reducible rfl
    rotate_left
    · simp only [ap]; rfl
    refine pure_ (i := 15) (N := some 2) (v := ?_) (a' := ?_) (bA 16 65535) rfl rfl (any_of HT_.out (by kernel_rfl)) (fun _ _ _ h => h) (Or.inl ⟨by rfl, ?_⟩) ?_ ?_; rotate_left
    · intro w'; go_simp; with_reducible rfl
    rotate_left
    · simp only [ap]; rfl
    replace BK669 := kb BK669 HBW.out; replace HB := hs HB HBW.out; refine done_ (done_of HT_.out (by kernel_rfl)) ?_; clear HBW hH0; (try go_wp2); go_ret; exact ⟨by first | rfl | (simp [errW_none, errW_some] <;> rfl) | (simp [*, errW_none, errW_some] <;> rfl), by repeat first | (with_reducible exact HB.out) | (with_reducible refine bset ?_ ‹_›) | refine bl1 ?_ | exact HB.out⟩
  ·
   rw [if_neg c4] at H; (have c4b0 : (a0_0 == t670 && (a0_1 == t671)) = false := by simpa using c4); (try (have c4b1 : decide (a0_0 = t670 && (a0_1 == t671)) = false := by simpa using c4)); (try (have c4b2 : (a0_0 == t670 && (a0_1 == t671)) = false := by simpa using c4)); (try (have c4b3 : ¬ (a0_0 = t670 && (a0_1 == t671)) := by simpa using c4)); clear c4; obtain rfl := Option.some.inj H; go_enter Tryd.func44, Tryd.ntmps44; (try go_wp2_with (first | ((with_reducible refine gate_dst (N := 1) rfl ?_); refine box_event ?hg (N := 1) ?hd (cs := #[.int .i64 a0_0, .int .i64 a0_1, .int .i64 a0_2, .int .i64 a0_3, .int .i64 a0_4, .bool a0_5, .bool true]) (t := 25) ?hr ?_; (case hd => rfl); (case hg => rfl); (case hr => first | (go_simp; done) | (go_simp; rfl)); intro gb669 hg w17 hbox hb; have BK669 := Aside0.mk (hbox); have GW669 := hz_ hg HB; have GE669 := hz_ hg HB; replace HB := hs HB hb; clear hb hbox hg; obtain ⟨hcz18_0, hcz18_1, hcz18_2, hcz18_3, hcz18_4, hcz18_5, hcz18_6⟩ := bc7 BK669.out; obtain ⟨hfz18_0, hfz18_1, hfz18_2, hfz18_3, hfz18_4, hfz18_5, hfz18_6⟩ := bf7 BK669.out))); replace BK669 := kd BK669; replace HB := Aside0.mk (below_drew1 HB.out); refine start_ (n := 16) (S := fun w' => w'.cell? ⟨gb669, 0, none⟩ = some (.int .i64 a0_0) ∧ w'.cell? ⟨gb669, 1, none⟩ = some (.int .i64 a0_1) ∧ w'.cell? ⟨gb669, 2, none⟩ = some (.int .i64 a0_2) ∧ w'.cell? ⟨gb669, 3, none⟩ = some (.int .i64 a0_3) ∧ w'.cell? ⟨gb669, 4, none⟩ = some (.int .i64 a0_4) ∧ w'.cell? ⟨gb669, 5, none⟩ = some (.bool a0_5) ∧ w'.cell? ⟨gb669, 6, none⟩ = some (.bool true)) (ds := []) (bA 16 0) (by kernel_rfl) rfl rfl ⟨(blk_cell BK669.out 0).trans rfl, (blk_cell BK669.out 1).trans rfl, (blk_cell BK669.out 2).trans rfl, (blk_cell BK669.out 3).trans rfl, (blk_cell BK669.out 4).trans rfl, (blk_cell BK669.out 5).trans rfl, (blk_cell BK669.out 6).trans rfl⟩ (fun hHeld => ?_); refine with_tabW serinetteref03_Valid.tab2 serinetteref03_Valid.bits2 (fun HT_ HW_ => ?_); generalize w17.drew = w19 at BK669 HB hHeld ⊢; have hH0 := hHeld; have HBW := hbw w19; refine pure_ (i := 0) (N := some 5) (v := ?_) (a' := ?_) (bA 16 1) rfl rfl (any_of HT_.out (by kernel_rfl)) (fun _ _ _ h => h) (Or.inl ⟨by rfl, ?_⟩) ?_ ?_; rotate_left
   · intro w'; go_simp; with_reducible rfl
   rotate_left
   · simp only [ap]; rfl
   refine take_ (i := 1) (N := some 6) (v := ?_) (a' := ?_) (bA 16 3) rfl rfl (take_ofW HT_.out HW_.out (by kernel_rfl)) (fun _ _ _ h => h) (Or.inl ⟨by rfl, ?_⟩) hHeld ?_ ?_; rotate_left
   · rintro w' ⟨s0, s1, s2, s3, s4, s5, s6⟩; go_simp; with_reducible rfl
   rotate_left
   · simp only [ap]; rfl
   refine one_ (i := 2) (N := some 7) (bA 16 7) rfl rfl (one_of HT_.out (by kernel_rfl)) (by decide) (fun K hK => ?_); refine goes_ Tryd.func33 (by kernel_rfl) rfl #[] (by rfl) rfl rfl (by (try simp only [mp]); first | done | rfl | (simp only [ld]; rfl)) ?_; (with_reducible refine (serinetteref01_None.calls  t670 t671 _ A3.out).mono ?_); rintro e w20 ⟨rfl, hb⟩; refine ⟨_, rfl, ?_⟩; replace HBW := hs HBW hb; clear hb; refine hK.out _ _ (hs7 HBW.out hH0) (fun hHeld => ?_); clear hK K; refine norm_ (a' := ?_) ?_ ?_; rotate_left
   · (show Act.put _ (some 7) _ = _); simp only [ap]; rfl
   refine pure_ (i := 3) (N := some 8) (v := ?_) (a' := ?_) (bA 16 15) rfl rfl (any_of HT_.out (by kernel_rfl)) (fun _ _ _ h => h) (Or.inl ⟨by rfl, ?_⟩) ?_ ?_; rotate_left
   · intro w'; go_simp; with_reducible rfl
   rotate_left
   · simp only [ap]; rfl
   refine pure_ (i := 4) (N := some 9) (v := ?_) (a' := ?_) (bA 16 31) rfl rfl (any_of HT_.out (by kernel_rfl)) (fun _ _ _ h => h) (Or.inl ⟨by rfl, ?_⟩) ?_ ?_; rotate_left
   · intro w'; go_simp; with_reducible rfl
   rotate_left
   · simp only [ap]; rfl
   refine pure_ (i := 5) (N := some 10) (v := undef) (a' := ?_) (bA 16 63) rfl rfl (any_of HT_.out (by kernel_rfl)) (fun _ _ _ h => h) (Or.inr ⟨by rfl, rfl⟩) ?_ ?_; rotate_left
   · simp only [ap]; rfl
   refine pure_ (i := 6) (N := some 11) (v := undef) (a' := ?_) (bA 16 127) rfl rfl (any_of HT_.out (by kernel_rfl)) (fun _ _ _ h => h) (Or.inr ⟨by rfl, rfl⟩) ?_ ?_; rotate_left
   · simp only [ap]; rfl
   refine pure_ (i := 7) (N := some 12) (v := undef) (a' := ?_) (bA 16 255) rfl rfl (any_of HT_.out (by kernel_rfl)) (fun _ _ _ h => h) (Or.inr ⟨by rfl, rfl⟩) ?_ ?_; rotate_left
   · simp only [ap]; rfl
   refine pure_ (i := 8) (N := some 13) (v := undef) (a' := ?_) (bA 16 511) rfl rfl (any_of HT_.out (by kernel_rfl)) (fun _ _ _ h => h) (Or.inr ⟨by rfl, rfl⟩) ?_ ?_; rotate_left
   · simp only [ap]; rfl
   refine pure_ (i := 9) (N := some 14) (v := ?_) (a' := ?_) (bA 16 1023) rfl rfl (any_of HT_.out (by kernel_rfl)) (fun _ _ _ h => h) (Or.inl ⟨by rfl, ?_⟩) ?_ ?_; rotate_left
   · intro w'; go_simp; with_reducible rfl
   rotate_left
   · simp only [ap]; rfl
   refine pure_ (i := 10) (N := some 15) (v := ?_) (a' := ?_) (bA 16 2047) rfl rfl (any_of HT_.out (by kernel_rfl)) (fun _ _ _ h => h) (Or.inl ⟨by rfl, ?_⟩) ?_ ?_; rotate_left
   · intro w'; go_simp; with_reducible rfl
   rotate_left
   · simp only [ap]; rfl
   refine pure_ (i := 11) (N := some 16) (v := undef) (a' := ?_) (bA 16 4095) rfl rfl (any_of HT_.out (by kernel_rfl)) (fun _ _ _ h => h) (Or.inr ⟨by rfl, rfl⟩) ?_ ?_; rotate_left
   · simp only [ap]; rfl
   refine pure_ (i := 12) (N := some 17) (v := undef) (a' := ?_) (bA 16 8191) rfl rfl (any_of HT_.out (by kernel_rfl)) (fun _ _ _ h => h) (Or.inr ⟨by rfl, rfl⟩) ?_ ?_; rotate_left
   · simp only [ap]; rfl
   refine pure_ (i := 13) (N := some 18) (v := undef) (a' := ?_) (bA 16 16383) rfl rfl (any_of HT_.out (by kernel_rfl)) (fun _ _ _ h => h) (Or.inr ⟨by rfl, rfl⟩) ?_ ?_; rotate_left
   · simp only [ap]; rfl
   refine pure_ (i := 14) (N := some 19) (v := ?_) (a' := ?_) (bA 16 32767) rfl rfl (any_of HT_.out (by kernel_rfl)) (fun _ _ _ h => h) (Or.inl ⟨by rfl, ?_⟩) ?_ ?_; rotate_left
   · intro w'; go_simp; with_reducible rfl
   rotate_left
   · simp only [ap]; rfl
   refine pure_ (i := 15) (N := some 2) (v := ?_) (a' := ?_) (bA 16 65535) rfl rfl (any_of HT_.out (by kernel_rfl)) (fun _ _ _ h => h) (Or.inl ⟨by rfl, ?_⟩) ?_ ?_; rotate_left
   · intro w'; go_simp; with_reducible rfl
   rotate_left
   · simp only [ap]; rfl
   replace BK669 := kb BK669 HBW.out; replace HB := hs HB HBW.out; refine done_ (done_of HT_.out (by kernel_rfl)) ?_; clear HBW hH0; (try go_wp2); go_ret; exact ⟨by first | rfl | (simp [errW_none, errW_some] <;> rfl) | (simp [*, errW_none, errW_some] <;> rfl), by repeat first | (with_reducible exact HB.out) | (with_reducible refine bset ?_ ‹_›) | refine bl1 ?_ | exact HB.out⟩
 ·
  replace c2 := Bool.eq_false_iff.mpr c2; subst c2; rw [if_neg (show ¬ (false = true) by decide)] at H; have HC21 := Aside0.mk H; clear H; go_enter Tryd.func44, Tryd.ntmps44; go_upto_region 3 with (first | ((with_reducible refine gate_dst (N := 1) rfl ?_); refine box_event ?hg (N := 1) ?hd (cs := #[.int .i64 a0_0, .int .i64 a0_1, .int .i64 a0_2, .int .i64 a0_3, .int .i64 a0_4, .bool a0_5, .bool false]) (t := 25) ?hr ?_; (case hd => rfl); (case hg => rfl); (case hr => first | (go_simp; done) | (go_simp; rfl)); intro gb669 hg w22 hbox hb; have BK669 := Aside0.mk (hbox); have GW669 := hz_ hg HB; have GE669 := hz_ hg HB; replace HB := hs HB hb; clear hb hbox hg; obtain ⟨hcz23_0, hcz23_1, hcz23_2, hcz23_3, hcz23_4, hcz23_5, hcz23_6⟩ := bc7 BK669.out; obtain ⟨hfz23_0, hfz23_1, hfz23_2, hfz23_3, hfz23_4, hfz23_5, hfz23_6⟩ := bf7 BK669.out)); (try simp only [Act.put, List.setIfInBounds_toArray, List.set_cons_zero, List.set_cons_succ])
  go_cut [39] (fun v39 wc => ∃ (kq : Nat) (x39_20 : Bool), v39 = .bool x39_20 ∧ Aside0 (serinetteref03_Valid.j0 kq x39_20 a0_0 a0_1 a0_2 a0_3 a0_4 a0_5 false = some r) ∧ Aside0 (kq ≤ k) ∧ Aside0 (wc.heap[gb669]? = some (.cells #[.int .i64 a0_0, .int .i64 a0_1, .int .i64 a0_2, .int .i64 a0_3, .int .i64 a0_4, .bool a0_5, .bool false] 25 (0, 0))) ∧ Aside0 (Below w.heap.size w wc))
  case first =>
   have H := HC21.out; clear HC21; replace H := Option.bind_eq_some_iff.mp H; obtain ⟨t674, A240, H⟩ := H; (try dsimp only at H); have A24 := Aside0.mk A240; clear A240; by_cases c25 : t674 = true
   ·
    subst c25; rw [if_pos rfl] at H; replace H := Option.bind_eq_some_iff.mp H; obtain ⟨t675, A260, H⟩ := H; (try dsimp only at H); have A26 := Aside0.mk A260; clear A260; by_cases c27 : t675 = true
    ·
     subst c27; rw [if_pos rfl] at H; by_cases c28 : a0_4 < 0
     ·
      rw [if_pos c28] at H; have c28b0 : decide (a0_4 < 0) = true := decide_eq_true c28; clear c28; (first | rw [c28b0] | (simp only [i64_w, i32_w]; rw [c28b0]) | skip); have H' := Aside0.mk H; clear H; obtain ⟨hcz29_0, hcz29_1, hcz29_2, hcz29_3, hcz29_4, hcz29_5, hcz29_6⟩ := bc7 BK669.out; obtain ⟨hfz29_0, hfz29_1, hfz29_2, hfz29_3, hfz29_4, hfz29_5, hfz29_6⟩ := bf7 BK669.out; go_wp2_with (first | ((with_reducible refine gate_callee (f := 70) rfl ?_); refine goesL_ (some 22) rfl rfl Tryd.func70 (by kernel_rfl) rfl #[.agg #[.int .i64 a0_0, .int .i64 a0_1]] rfl (by (try simp only [mp]); first | done | rfl | (simp only [ld]; rfl)) ?_; (with_reducible refine (serinetteref01_Valid.calls k a0_0 a0_1 true _ A24.out).mono ?_); rintro e w30 ⟨rfl, hb⟩; refine ⟨_, rfl, ?_⟩; replace BK669 := kb BK669 hb; replace HB := Aside0.mk (below_step (by repeat first | (with_reducible exact HB.out) | refine bl1 ?_ | (with_reducible refine bset ?_ ‹_›) | exact HB.out) hb); (try clear hb); (try clear hb2); (try clear hk); (try clear hi); obtain ⟨hcz31_0, hcz31_1, hcz31_2, hcz31_3, hcz31_4, hcz31_5, hcz31_6⟩ := bc7 BK669.out; obtain ⟨hfz31_0, hfz31_1, hfz31_2, hfz31_3, hfz31_4, hfz31_5, hfz31_6⟩ := bf7 BK669.out) | (go_at_call 70; (with_reducible refine (serinetteref01_Valid.calls k a0_2 a0_3 true _ A26.out).mono ?_); rintro e w32 ⟨rfl, hb⟩; replace BK669 := kb BK669 hb; replace HB := Aside0.mk (below_step (by repeat first | (with_reducible exact HB.out) | refine bl1 ?_ | (with_reducible refine bset ?_ ‹_›) | exact HB.out) hb); (try clear hb); (try clear hb2); (try clear hk); (try clear hi); obtain ⟨hcz33_0, hcz33_1, hcz33_2, hcz33_3, hcz33_4, hcz33_5, hcz33_6⟩ := bc7 BK669.out; obtain ⟨hfz33_0, hfz33_1, hfz33_2, hfz33_3, hfz33_4, hfz33_5, hfz33_6⟩ := bf7 BK669.out)); go_meet
      case rel => exact ⟨_, (true), (by first | rfl | (simp; done) | (simp [*]; done)), H', ⟨by first | omega | exact Nat.le_refl _⟩, ⟨by refine bk ?_; exact BK669.out⟩, ⟨by repeat first | (with_reducible exact HB.out) | (with_reducible refine bset ?_ ‹_›) | refine bl1 ?_ | exact HB.out⟩⟩
     ·
      rw [if_neg c28] at H; have c28b0 : decide (a0_4 < 0) = false := decide_eq_false c28; clear c28; (first | rw [c28b0] | (simp only [i64_w, i32_w]; rw [c28b0]) | skip); have H' := Aside0.mk H; clear H; obtain ⟨hcz34_0, hcz34_1, hcz34_2, hcz34_3, hcz34_4, hcz34_5, hcz34_6⟩ := bc7 BK669.out; obtain ⟨hfz34_0, hfz34_1, hfz34_2, hfz34_3, hfz34_4, hfz34_5, hfz34_6⟩ := bf7 BK669.out; go_wp2_with (first | ((with_reducible refine gate_callee (f := 70) rfl ?_); refine goesL_ (some 22) rfl rfl Tryd.func70 (by kernel_rfl) rfl #[.agg #[.int .i64 a0_0, .int .i64 a0_1]] rfl (by (try simp only [mp]); first | done | rfl | (simp only [ld]; rfl)) ?_; (with_reducible refine (serinetteref01_Valid.calls k a0_0 a0_1 true _ A24.out).mono ?_); rintro e w35 ⟨rfl, hb⟩; refine ⟨_, rfl, ?_⟩; replace BK669 := kb BK669 hb; replace HB := Aside0.mk (below_step (by repeat first | (with_reducible exact HB.out) | refine bl1 ?_ | (with_reducible refine bset ?_ ‹_›) | exact HB.out) hb); (try clear hb); (try clear hb2); (try clear hk); (try clear hi); obtain ⟨hcz36_0, hcz36_1, hcz36_2, hcz36_3, hcz36_4, hcz36_5, hcz36_6⟩ := bc7 BK669.out; obtain ⟨hfz36_0, hfz36_1, hfz36_2, hfz36_3, hfz36_4, hfz36_5, hfz36_6⟩ := bf7 BK669.out) | (go_at_call 70; (with_reducible refine (serinetteref01_Valid.calls k a0_2 a0_3 true _ A26.out).mono ?_); rintro e w37 ⟨rfl, hb⟩; replace BK669 := kb BK669 hb; replace HB := Aside0.mk (below_step (by repeat first | (with_reducible exact HB.out) | refine bl1 ?_ | (with_reducible refine bset ?_ ‹_›) | exact HB.out) hb); (try clear hb); (try clear hb2); (try clear hk); (try clear hi); obtain ⟨hcz38_0, hcz38_1, hcz38_2, hcz38_3, hcz38_4, hcz38_5, hcz38_6⟩ := bc7 BK669.out; obtain ⟨hfz38_0, hfz38_1, hfz38_2, hfz38_3, hfz38_4, hfz38_5, hfz38_6⟩ := bf7 BK669.out)); go_meet
      case rel => exact ⟨_, (decide (a0_4 > 1073741824)), (by first | rfl | (simp; done) | (simp [*]; done)), H', ⟨by first | omega | exact Nat.le_refl _⟩, ⟨by refine bk ?_; exact BK669.out⟩, ⟨by repeat first | (with_reducible exact HB.out) | (with_reducible refine bset ?_ ‹_›) | refine bl1 ?_ | exact HB.out⟩⟩
    ·
     replace c27 := Bool.eq_false_iff.mpr c27; subst c27; rw [if_neg (show ¬ (false = true) by decide)] at H; have H' := Aside0.mk H; clear H; obtain ⟨hcz39_0, hcz39_1, hcz39_2, hcz39_3, hcz39_4, hcz39_5, hcz39_6⟩ := bc7 BK669.out; obtain ⟨hfz39_0, hfz39_1, hfz39_2, hfz39_3, hfz39_4, hfz39_5, hfz39_6⟩ := bf7 BK669.out; go_wp2_with (first | ((with_reducible refine gate_callee (f := 70) rfl ?_); refine goesL_ (some 22) rfl rfl Tryd.func70 (by kernel_rfl) rfl #[.agg #[.int .i64 a0_0, .int .i64 a0_1]] rfl (by (try simp only [mp]); first | done | rfl | (simp only [ld]; rfl)) ?_; (with_reducible refine (serinetteref01_Valid.calls k a0_0 a0_1 true _ A24.out).mono ?_); rintro e w40 ⟨rfl, hb⟩; refine ⟨_, rfl, ?_⟩; replace BK669 := kb BK669 hb; replace HB := Aside0.mk (below_step (by repeat first | (with_reducible exact HB.out) | refine bl1 ?_ | (with_reducible refine bset ?_ ‹_›) | exact HB.out) hb); (try clear hb); (try clear hb2); (try clear hk); (try clear hi); obtain ⟨hcz41_0, hcz41_1, hcz41_2, hcz41_3, hcz41_4, hcz41_5, hcz41_6⟩ := bc7 BK669.out; obtain ⟨hfz41_0, hfz41_1, hfz41_2, hfz41_3, hfz41_4, hfz41_5, hfz41_6⟩ := bf7 BK669.out) | (go_at_call 70; (with_reducible refine (serinetteref01_Valid.calls k a0_2 a0_3 false _ A26.out).mono ?_); rintro e w42 ⟨rfl, hb⟩; replace BK669 := kb BK669 hb; replace HB := Aside0.mk (below_step (by repeat first | (with_reducible exact HB.out) | refine bl1 ?_ | (with_reducible refine bset ?_ ‹_›) | exact HB.out) hb); (try clear hb); (try clear hb2); (try clear hk); (try clear hi))); go_meet
     case rel => exact ⟨_, (true), (by first | rfl | (simp; done) | (simp [*]; done)), H', ⟨by first | omega | exact Nat.le_refl _⟩, ⟨by refine bk ?_; exact BK669.out⟩, ⟨by repeat first | (with_reducible exact HB.out) | (with_reducible refine bset ?_ ‹_›) | refine bl1 ?_ | exact HB.out⟩⟩
   ·
    replace c25 := Bool.eq_false_iff.mpr c25; subst c25; rw [if_neg (show ¬ (false = true) by decide)] at H; have H' := Aside0.mk H; clear H; obtain ⟨hcz43_0, hcz43_1, hcz43_2, hcz43_3, hcz43_4, hcz43_5, hcz43_6⟩ := bc7 BK669.out; obtain ⟨hfz43_0, hfz43_1, hfz43_2, hfz43_3, hfz43_4, hfz43_5, hfz43_6⟩ := bf7 BK669.out; go_wp2_with (first | ((with_reducible refine gate_callee (f := 70) rfl ?_); refine goesL_ (some 22) rfl rfl Tryd.func70 (by kernel_rfl) rfl #[.agg #[.int .i64 a0_0, .int .i64 a0_1]] rfl (by (try simp only [mp]); first | done | rfl | (simp only [ld]; rfl)) ?_; (with_reducible refine (serinetteref01_Valid.calls k a0_0 a0_1 false _ A24.out).mono ?_); rintro e w44 ⟨rfl, hb⟩; refine ⟨_, rfl, ?_⟩; replace BK669 := kb BK669 hb; replace HB := Aside0.mk (below_step (by repeat first | (with_reducible exact HB.out) | refine bl1 ?_ | (with_reducible refine bset ?_ ‹_›) | exact HB.out) hb); (try clear hb); (try clear hb2); (try clear hk); (try clear hi))); go_meet
    case rel => exact ⟨_, (true), (by first | rfl | (simp; done) | (simp [*]; done)), H', ⟨by first | omega | exact Nat.le_refl _⟩, ⟨by refine bk ?_; exact BK669.out⟩, ⟨by repeat first | (with_reducible exact HB.out) | (with_reducible refine bset ?_ ‹_›) | refine bl1 ?_ | exact HB.out⟩⟩
  case rest =>
   clear HC21; (try clear c2); (try clear p2); (try clear c3); (try clear c4); (try clear c4b0); (try clear c4b1); (try clear c4b2); (try clear c6); (try clear c6b0); (try clear c6b1); (try clear c6b2); (try clear c7); (try clear c25); (try clear c27); (try clear c28); (try clear c28b0); (try clear c33); (try clear c44); (try clear hcz13_0); (try clear hcz13_1); (try clear hcz13_2); (try clear hcz13_3); (try clear hcz13_4); (try clear hcz13_5); (try clear hcz13_6); (try clear hcz18_0); (try clear hcz18_1); (try clear hcz18_2); (try clear hcz18_3); (try clear hcz18_4); (try clear hcz18_5); (try clear hcz18_6); (try clear hcz23_0); (try clear hcz23_1); (try clear hcz23_2); (try clear hcz23_3); (try clear hcz23_4); (try clear hcz23_5); (try clear hcz23_6); (try clear hcz29_0); (try clear hcz29_1); (try clear hcz29_2); (try clear hcz29_3); (try clear hcz29_4); (try clear hcz29_5); (try clear hcz29_6); (try clear hcz31_0); (try clear hcz31_1); (try clear hcz31_2); (try clear hcz31_3); (try clear hcz31_4); (try clear hcz31_5); (try clear hcz31_6); (try clear hcz33_0); (try clear hcz33_1); (try clear hcz33_2); (try clear hcz33_3); (try clear hcz33_4); (try clear hcz33_5); (try clear hcz33_6); (try clear hcz34_0); (try clear hcz34_1); (try clear hcz34_2); (try clear hcz34_3); (try clear hcz34_4); (try clear hcz34_5); (try clear hcz34_6); (try clear hcz36_0); (try clear hcz36_1); (try clear hcz36_2); (try clear hcz36_3); (try clear hcz36_4); (try clear hcz36_5); (try clear hcz36_6); (try clear hcz38_0); (try clear hcz38_1); (try clear hcz38_2); (try clear hcz38_3); (try clear hcz38_4); (try clear hcz38_5); (try clear hcz38_6); (try clear hcz39_0); (try clear hcz39_1); (try clear hcz39_2); (try clear hcz39_3); (try clear hcz39_4); (try clear hcz39_5); (try clear hcz39_6); (try clear hcz41_0); (try clear hcz41_1); (try clear hcz41_2); (try clear hcz41_3); (try clear hcz41_4); (try clear hcz41_5); (try clear hcz41_6); (try clear hcz43_0); (try clear hcz43_1); (try clear hcz43_2); (try clear hcz43_3); (try clear hcz43_4); (try clear hcz43_5); (try clear hcz43_6); (try clear hfz13_0); (try clear hfz13_1); (try clear hfz13_2); (try clear hfz13_3); (try clear hfz13_4); (try clear hfz13_5); (try clear hfz13_6); (try clear hfz18_0); (try clear hfz18_1); (try clear hfz18_2); (try clear hfz18_3); (try clear hfz18_4); (try clear hfz18_5); (try clear hfz18_6); (try clear hfz23_0); (try clear hfz23_1); (try clear hfz23_2); (try clear hfz23_3); (try clear hfz23_4); (try clear hfz23_5); (try clear hfz23_6); (try clear hfz29_0); (try clear hfz29_1); (try clear hfz29_2); (try clear hfz29_3); (try clear hfz29_4); (try clear hfz29_5); (try clear hfz29_6); (try clear hfz31_0); (try clear hfz31_1); (try clear hfz31_2); (try clear hfz31_3); (try clear hfz31_4); (try clear hfz31_5); (try clear hfz31_6); (try clear hfz33_0); (try clear hfz33_1); (try clear hfz33_2); (try clear hfz33_3); (try clear hfz33_4); (try clear hfz33_5); (try clear hfz33_6); (try clear hfz34_0); (try clear hfz34_1); (try clear hfz34_2); (try clear hfz34_3); (try clear hfz34_4); (try clear hfz34_5); (try clear hfz34_6); (try clear hfz36_0); (try clear hfz36_1); (try clear hfz36_2); (try clear hfz36_3); (try clear hfz36_4); (try clear hfz36_5); (try clear hfz36_6); (try clear hfz38_0); (try clear hfz38_1); (try clear hfz38_2); (try clear hfz38_3); (try clear hfz38_4); (try clear hfz38_5); (try clear hfz38_6); (try clear hfz39_0); (try clear hfz39_1); (try clear hfz39_2); (try clear hfz39_3); (try clear hfz39_4); (try clear hfz39_5); (try clear hfz39_6); (try clear hfz41_0); (try clear hfz41_1); (try clear hfz41_2); (try clear hfz41_3); (try clear hfz41_4); (try clear hfz41_5); (try clear hfz41_6); (try clear hfz43_0); (try clear hfz43_1); (try clear hfz43_2); (try clear hfz43_3); (try clear hfz43_4); (try clear hfz43_5); (try clear hfz43_6); obtain ⟨kq, x39_20, rfl, HA, HJ20, BK669, HB⟩ := hcut; cases kq with
   | zero => exact absurd HA.out (by simp [serinetteref03_Valid.j0])
   | succ kj20 =>
    have H := HA.out; clear HA; simp only [serinetteref03_Valid.j0] at H; by_cases c45 : x39_20 = true
    · subst c45; rw [if_pos rfl] at H; obtain rfl := Option.some.inj H; go_wp2; go_ret; exact ⟨by first | rfl | (simp [errW_none, errW_some] <;> rfl) | (simp [*, errW_none, errW_some] <;> rfl), by repeat first | (with_reducible exact HB.out) | (with_reducible refine bset ?_ ‹_›) | refine bl1 ?_ | exact HB.out⟩
    ·
     replace c45 := Bool.eq_false_iff.mpr c45; subst c45; rw [if_neg (show ¬ (false = true) by decide)] at H; replace H := Option.bind_eq_some_iff.mp H; obtain ⟨t676, A460, H⟩ := H; (try dsimp only at H); have A46 := Aside0.mk A460; clear A460; by_cases c47 : t676 = true
     ·
      subst c47; rw [if_pos rfl] at H; replace H := Option.bind_eq_some_iff.mp H; obtain ⟨t677, A480, H⟩ := H; (try dsimp only at H); have A48 := Aside0.mk A480; clear A480; by_cases c49 : t677 = true
      · subst c49; rw [if_pos rfl] at H; replace H := Option.bind_eq_some_iff.mp H; obtain ⟨t678, A500, H⟩ := H; (try dsimp only at H); have A50 := Aside0.mk A500; clear A500; obtain rfl := Option.some.inj H; obtain ⟨hcz51_0, hcz51_1, hcz51_2, hcz51_3, hcz51_4, hcz51_5, hcz51_6⟩ := bc7 BK669.out; obtain ⟨hfz51_0, hfz51_1, hfz51_2, hfz51_3, hfz51_4, hfz51_5, hfz51_6⟩ := bf7 BK669.out; go_wp2_with (first | ((with_reducible refine gate_callee (f := 19) rfl ?_); refine goesL_ (some 42) rfl rfl Tryd.func19 (by kernel_rfl) rfl #[.agg #[.int .i64 a0_0, .int .i64 a0_1]] rfl (by (try simp only [mp]); first | done | rfl | (simp only [ld]; rfl)) ?_; (with_reducible refine (serinetteref01_Is.calls kj20 a0_0 a0_1 true _ A46.out).mono ?_); rintro e w52 ⟨rfl, hb⟩; refine ⟨_, rfl, ?_⟩; replace BK669 := kb BK669 hb; replace HB := Aside0.mk (below_step (by repeat first | (with_reducible exact HB.out) | refine bl1 ?_ | (with_reducible refine bset ?_ ‹_›) | exact HB.out) hb); (try clear hb); (try clear hb2); (try clear hk); (try clear hi); obtain ⟨hcz53_0, hcz53_1, hcz53_2, hcz53_3, hcz53_4, hcz53_5, hcz53_6⟩ := bc7 BK669.out; obtain ⟨hfz53_0, hfz53_1, hfz53_2, hfz53_3, hfz53_4, hfz53_5, hfz53_6⟩ := bf7 BK669.out) | (go_at_call 19; (with_reducible refine (serinetteref01_Is.calls kj20 a0_2 a0_3 true _ A48.out).mono ?_); rintro e w54 ⟨rfl, hb⟩; replace BK669 := kb BK669 hb; replace HB := Aside0.mk (below_step (by repeat first | (with_reducible exact HB.out) | refine bl1 ?_ | (with_reducible refine bset ?_ ‹_›) | exact HB.out) hb); (try clear hb); (try clear hb2); (try clear hk); (try clear hi); obtain ⟨hcz55_0, hcz55_1, hcz55_2, hcz55_3, hcz55_4, hcz55_5, hcz55_6⟩ := bc7 BK669.out; obtain ⟨hfz55_0, hfz55_1, hfz55_2, hfz55_3, hfz55_4, hfz55_5, hfz55_6⟩ := bf7 BK669.out) | (go_at_call 20; (with_reducible refine (serinetteref01_Cmp.calls kj20 a0_0 a0_1 a0_2 a0_3 t678 _ A50.out).mono ?_); rintro e w56 ⟨rfl, hb⟩; replace BK669 := kb BK669 hb; replace HB := Aside0.mk (below_step (by repeat first | (with_reducible exact HB.out) | refine bl1 ?_ | (with_reducible refine bset ?_ ‹_›) | exact HB.out) hb); (try clear hb); (try clear hb2); (try clear hk); (try clear hi))); go_ret; exact ⟨by first | rfl | (simp [errW_none, errW_some] <;> rfl) | (simp [*, errW_none, errW_some] <;> rfl), by repeat first | (with_reducible exact HB.out) | (with_reducible refine bset ?_ ‹_›) | refine bl1 ?_ | exact HB.out⟩
      · replace c49 := Bool.eq_false_iff.mpr c49; subst c49; rw [if_neg (show ¬ (false = true) by decide)] at H; obtain rfl := Option.some.inj H; obtain ⟨hcz57_0, hcz57_1, hcz57_2, hcz57_3, hcz57_4, hcz57_5, hcz57_6⟩ := bc7 BK669.out; obtain ⟨hfz57_0, hfz57_1, hfz57_2, hfz57_3, hfz57_4, hfz57_5, hfz57_6⟩ := bf7 BK669.out; go_wp2_with (first | ((with_reducible refine gate_callee (f := 19) rfl ?_); refine goesL_ (some 42) rfl rfl Tryd.func19 (by kernel_rfl) rfl #[.agg #[.int .i64 a0_0, .int .i64 a0_1]] rfl (by (try simp only [mp]); first | done | rfl | (simp only [ld]; rfl)) ?_; (with_reducible refine (serinetteref01_Is.calls kj20 a0_0 a0_1 true _ A46.out).mono ?_); rintro e w58 ⟨rfl, hb⟩; refine ⟨_, rfl, ?_⟩; replace BK669 := kb BK669 hb; replace HB := Aside0.mk (below_step (by repeat first | (with_reducible exact HB.out) | refine bl1 ?_ | (with_reducible refine bset ?_ ‹_›) | exact HB.out) hb); (try clear hb); (try clear hb2); (try clear hk); (try clear hi); obtain ⟨hcz59_0, hcz59_1, hcz59_2, hcz59_3, hcz59_4, hcz59_5, hcz59_6⟩ := bc7 BK669.out; obtain ⟨hfz59_0, hfz59_1, hfz59_2, hfz59_3, hfz59_4, hfz59_5, hfz59_6⟩ := bf7 BK669.out) | (go_at_call 19; (with_reducible refine (serinetteref01_Is.calls kj20 a0_2 a0_3 false _ A48.out).mono ?_); rintro e w60 ⟨rfl, hb⟩; replace BK669 := kb BK669 hb; replace HB := Aside0.mk (below_step (by repeat first | (with_reducible exact HB.out) | refine bl1 ?_ | (with_reducible refine bset ?_ ‹_›) | exact HB.out) hb); (try clear hb); (try clear hb2); (try clear hk); (try clear hi))); go_ret; exact ⟨by first | rfl | (simp [errW_none, errW_some] <;> rfl) | (simp [*, errW_none, errW_some] <;> rfl), by repeat first | (with_reducible exact HB.out) | (with_reducible refine bset ?_ ‹_›) | refine bl1 ?_ | exact HB.out⟩
     · replace c47 := Bool.eq_false_iff.mpr c47; subst c47; rw [if_neg (show ¬ (false = true) by decide)] at H; obtain rfl := Option.some.inj H; obtain ⟨hcz61_0, hcz61_1, hcz61_2, hcz61_3, hcz61_4, hcz61_5, hcz61_6⟩ := bc7 BK669.out; obtain ⟨hfz61_0, hfz61_1, hfz61_2, hfz61_3, hfz61_4, hfz61_5, hfz61_6⟩ := bf7 BK669.out; go_wp2_with (first | ((with_reducible refine gate_callee (f := 19) rfl ?_); refine goesL_ (some 42) rfl rfl Tryd.func19 (by kernel_rfl) rfl #[.agg #[.int .i64 a0_0, .int .i64 a0_1]] rfl (by (try simp only [mp]); first | done | rfl | (simp only [ld]; rfl)) ?_; (with_reducible refine (serinetteref01_Is.calls kj20 a0_0 a0_1 false _ A46.out).mono ?_); rintro e w62 ⟨rfl, hb⟩; refine ⟨_, rfl, ?_⟩; replace BK669 := kb BK669 hb; replace HB := Aside0.mk (below_step (by repeat first | (with_reducible exact HB.out) | refine bl1 ?_ | (with_reducible refine bset ?_ ‹_›) | exact HB.out) hb); (try clear hb); (try clear hb2); (try clear hk); (try clear hi))); go_ret; exact ⟨by first | rfl | (simp [errW_none, errW_some] <;> rfl) | (simp [*, errW_none, errW_some] <;> rfl), by repeat first | (with_reducible exact HB.out) | (with_reducible refine bset ?_ ‹_›) | refine bl1 ?_ | exact HB.out⟩
def serinetteref03_All.f  : Option (Int × Int × Int × Int × Int × Bool × Bool) := some (0, 0, 0, 0, 0, true, false)
set_option maxHeartbeats 8000000 in
set_option maxRecDepth 100000 in
theorem serinetteref03_All.calls  (r1 : Int) (r2 : Int) (r3 : Int) (r4 : Int) (r5 : Int) (r6 : Bool) (r7 : Bool) (w : World) (h : serinetteref03_All.f  = some (r1, r2, r3, r4, r5, r6, r7)) :
  Calls Tryd.prog 45 #[] w fun e w' => e = .returned (.agg #[.int .i64 r1, .int .i64 r2, .int .i64 r3, .int .i64 r4, .int .i64 r5, .bool r6, .bool r7]) ∧ Below w.heap.size w w' := by
 have hu25 := Tryd.underlying25; have HB := Aside0.mk (Below.refl w.heap.size w); have H : (some (0, 0, 0, 0, 0, true, false)) = some (r1, r2, r3, r4, r5, r6, r7) := h; clear h; simp only [Option.some.injEq, Prod.mk.injEq] at H; obtain ⟨rfl, rfl, rfl, rfl, rfl, rfl, rfl⟩ := H; go_enter Tryd.func45, Tryd.ntmps45; go_wp2_with (first | ((with_reducible refine gate_dst (N := 0) rfl ?_); refine box_event ?hg (N := 0) ?hd (cs := #[.int .i64 0, .int .i64 0, .int .i64 0, .int .i64 0, .int .i64 0, .bool false, .bool false]) (t := 25) ?hr ?_; (case hd => rfl); (case hg => rfl); (case hr => first | (go_simp; done) | (go_simp; rfl)); intro gb679 hg w1 hbox hb; have BK679 := Aside0.mk (hbox); have GW679 := hz_ hg HB; have GE679 := hz_ hg HB; replace HB := hs HB hb; clear hb hbox hg; obtain ⟨hcz2_0, hcz2_1, hcz2_2, hcz2_3, hcz2_4, hcz2_5, hcz2_6⟩ := bc7 BK679.out; obtain ⟨hfz2_0, hfz2_1, hfz2_2, hfz2_3, hfz2_4, hfz2_5, hfz2_6⟩ := bf7 BK679.out)); refine bodyPost_ret (results_cell_row rfl _ _ gb679 25 #[.int .i64 0, .int .i64 0, .int .i64 0, .int .i64 0, .int .i64 0, .bool true, .bool false] (0, 0) _ rfl (by exact rq BK679.out (by rfl)) Tryd.underlying25 rfl (by kernel_rfl)) rfl ?_; exact ⟨by first | rfl | (simp [errW_none, errW_some] <;> rfl) | (simp [*, errW_none, errW_some] <;> rfl), by repeat first | (with_reducible exact HB.out) | (with_reducible refine bset ?_ ‹_›) | refine bl1 ?_ | exact HB.out⟩
def serinetteref03_Clean.f (k : Nat) (a0_0 : Int) (a0_1 : Int) (a0_2 : Int) (a0_3 : Int) (a0_4 : Int) (a0_5 : Bool) (a0_6 : Bool) : Option (Int × Int × Int × Int × Int × Bool × Bool) := (serinetteref03_Valid.f k a0_0 a0_1 a0_2 a0_3 a0_4 a0_5 a0_6).bind fun t682 => (if t682 = true then (some (a0_0, a0_1, a0_2, a0_3, a0_4, a0_5, a0_6)) else ((serinetteref03_All.f).bind fun bt683 => (some (bt683.1, bt683.2.1, bt683.2.2.1, bt683.2.2.2.1, bt683.2.2.2.2.1, bt683.2.2.2.2.2.1, bt683.2.2.2.2.2.2))))
theorem serinetteref03_Clean.mono : ∀ a0 a1 a2 a3 a4 a5 a6 k, LeO (serinetteref03_Clean.f k a0 a1 a2 a3 a4 a5 a6) (serinetteref03_Clean.f (k + 1) a0 a1 a2 a3 a4 a5 a6) := by
 intro a0 a1 a2 a3 a4 a5 a6 k
 unfold serinetteref03_Clean.f
 repeat' first
   | (with_reducible exact serinetteref03_Valid.mono _ _ _ _ _ _ _ _)
   | (with_reducible exact LeO.refl _)
   | (with_reducible exact LeO.none _)
   | (with_reducible refine LeO.ite ?_ ?_)
   | (with_reducible refine LeO.bind ?_ (fun _ => ?_))
   | exact serinetteref03_Valid.mono _ _ _ _ _ _ _ _
   | exact LeO.none _
   | refine LeO.ite ?_ ?_
   | refine LeO.bind ?_ (fun _ => ?_)
set_option maxHeartbeats 8000000 in
set_option maxRecDepth 100000 in
theorem serinetteref03_Clean.calls (k : Nat) (a0_0 : Int) (a0_1 : Int) (a0_2 : Int) (a0_3 : Int) (a0_4 : Int) (a0_5 : Bool) (a0_6 : Bool) (r1 : Int) (r2 : Int) (r3 : Int) (r4 : Int) (r5 : Int) (r6 : Bool) (r7 : Bool) (w : World) (h : serinetteref03_Clean.f k a0_0 a0_1 a0_2 a0_3 a0_4 a0_5 a0_6 = some (r1, r2, r3, r4, r5, r6, r7)) :
  Calls Tryd.prog 28 #[.agg #[.int .i64 a0_0, .int .i64 a0_1, .int .i64 a0_2, .int .i64 a0_3, .int .i64 a0_4, .bool a0_5, .bool a0_6]] w fun e w' => e = .returned (.agg #[.int .i64 r1, .int .i64 r2, .int .i64 r3, .int .i64 r4, .int .i64 r5, .bool r6, .bool r7]) ∧ Below w.heap.size w w' := by
 have hu25 := Tryd.underlying25; have HB := Aside0.mk (Below.refl w.heap.size w); have H : ((serinetteref03_Valid.f k a0_0 a0_1 a0_2 a0_3 a0_4 a0_5 a0_6).bind fun t682 => (if t682 = true then (some (a0_0, a0_1, a0_2, a0_3, a0_4, a0_5, a0_6)) else ((serinetteref03_All.f).bind fun bt683 => (some (bt683.1, bt683.2.1, bt683.2.2.1, bt683.2.2.2.1, bt683.2.2.2.2.1, bt683.2.2.2.2.2.1, bt683.2.2.2.2.2.2))))) = some (r1, r2, r3, r4, r5, r6, r7) := h; clear h; replace H := Option.bind_eq_some_iff.mp H; obtain ⟨t682, A20, H⟩ := H; (try dsimp only at H); have A2 := Aside0.mk A20; clear A20; by_cases c3 : t682 = true
 · subst c3; rw [if_pos rfl] at H; simp only [Option.some.injEq, Prod.mk.injEq] at H; obtain ⟨rfl, rfl, rfl, rfl, rfl, rfl, rfl⟩ := H; go_enter Tryd.func28, Tryd.ntmps28; go_wp2_with (first | ((with_reducible refine gate_dst (N := 1) rfl ?_); refine box_event ?hg (N := 1) ?hd (cs := #[.int .i64 a0_0, .int .i64 a0_1, .int .i64 a0_2, .int .i64 a0_3, .int .i64 a0_4, .bool a0_5, .bool a0_6]) (t := 25) ?hr ?_; (case hd => rfl); (case hg => rfl); (case hr => first | (go_simp; done) | (go_simp; rfl)); intro gb680 hg w4 hbox hb; have BK680 := Aside0.mk (hbox); have GW680 := hz_ hg HB; have GE680 := hz_ hg HB; replace HB := hs HB hb; clear hb hbox hg) | ((with_reducible refine gate_dst (N := 2) rfl ?_); refine box_event ?hg (N := 2) ?hd (cs := #[.int .i64 0, .int .i64 0, .int .i64 0, .int .i64 0, .int .i64 0, .bool false, .bool false]) (t := 25) ?hr ?_; (case hd => rfl); (case hg => rfl); (case hr => first | (go_simp; done) | (go_simp; rfl)); intro gb681 hg w5 hbox hb; have BK681 := Aside0.mk (hbox); have GW681 := Aside0.mk ((by rw [hg]; exact (below_size (by repeat first | (with_reducible exact HB.out) | refine bl1 ?_ | (with_reducible refine bset ?_ ‹_›) | exact HB.out)) : w.heap.size ≤ gb681)); have GE681 := Aside0.mk ((by rw [hg]; exact (below_size (by repeat first | (with_reducible exact HB.out) | refine bl1 ?_ | (with_reducible refine bset ?_ ‹_›) | exact HB.out)) : w.heap.size ≤ gb681)); have NB680_681 := nlk hg BK680; have NB681_680 := ngk hg BK680; replace BK680 := kb BK680 hb; replace HB := Aside0.mk (below_step (by repeat first | (with_reducible exact HB.out) | refine bl1 ?_ | (with_reducible refine bset ?_ ‹_›) | exact HB.out) hb); clear hb hbox hg; have hnb6 := NB680_681.out; have hnc6 := NB681_680.out; obtain ⟨hcz7_0, hcz7_1, hcz7_2, hcz7_3, hcz7_4, hcz7_5, hcz7_6⟩ := bc7 BK680.out; obtain ⟨hfz7_0, hfz7_1, hfz7_2, hfz7_3, hfz7_4, hfz7_5, hfz7_6⟩ := bf7 BK680.out) | ((with_reducible refine gate_callee (f := 44) rfl ?_); refine goesL_ (some 4) rfl rfl Tryd.func44 (by kernel_rfl) rfl #[.agg #[.int .i64 a0_0, .int .i64 a0_1, .int .i64 a0_2, .int .i64 a0_3, .int .i64 a0_4, .bool a0_5, .bool a0_6]] rfl (by (try simp only [mp]); first | done | rfl | (simp only [ld]; rfl)) ?_; (with_reducible refine (serinetteref03_Valid.calls k a0_0 a0_1 a0_2 a0_3 a0_4 a0_5 a0_6 true _ A2.out).mono ?_); rintro e w8 ⟨rfl, hb⟩; refine ⟨_, rfl, ?_⟩; replace BK680 := kb BK680 hb; replace BK681 := kb BK681 hb; replace HB := Aside0.mk (below_step (by repeat first | (with_reducible exact HB.out) | refine bl1 ?_ | (with_reducible refine bset ?_ ‹_›) | exact HB.out) hb); (try clear hb); (try clear hb2); (try clear hk); (try clear hi); obtain ⟨hcz9_0, hcz9_1, hcz9_2, hcz9_3, hcz9_4, hcz9_5, hcz9_6⟩ := bc7 BK680.out; obtain ⟨hfz9_0, hfz9_1, hfz9_2, hfz9_3, hfz9_4, hfz9_5, hfz9_6⟩ := bf7 BK680.out; obtain ⟨hcz10_0, hcz10_1, hcz10_2, hcz10_3, hcz10_4, hcz10_5, hcz10_6⟩ := bc7 BK681.out; obtain ⟨hfz10_0, hfz10_1, hfz10_2, hfz10_3, hfz10_4, hfz10_5, hfz10_6⟩ := bf7 BK681.out)); refine bodyPost_ret (results_cell_row rfl _ _ gb681 25 #[.int .i64 a0_0, .int .i64 a0_1, .int .i64 a0_2, .int .i64 a0_3, .int .i64 a0_4, .bool a0_5, .bool a0_6] (0, 0) _ rfl (by exact rq BK681.out (by rfl)) Tryd.underlying25 rfl (by kernel_rfl)) rfl ?_; exact ⟨by first | rfl | (simp [errW_none, errW_some] <;> rfl) | (simp [*, errW_none, errW_some] <;> rfl), by repeat first | (with_reducible exact HB.out) | (with_reducible refine bset ?_ ‹_›) | refine bl1 ?_ | exact HB.out⟩
 · replace c3 := Bool.eq_false_iff.mpr c3; subst c3; rw [if_neg (show ¬ (false = true) by decide)] at H; replace H := Option.bind_eq_some_iff.mp H; obtain ⟨⟨t683, t684, t685, t686, t687, t688, t689⟩, A110, H⟩ := H; (try dsimp only at H); have A11 := Aside0.mk A110; clear A110; simp only [Option.some.injEq, Prod.mk.injEq] at H; obtain ⟨rfl, rfl, rfl, rfl, rfl, rfl, rfl⟩ := H; go_enter Tryd.func28, Tryd.ntmps28; go_wp2_with (first | ((with_reducible refine gate_dst (N := 1) rfl ?_); refine box_event ?hg (N := 1) ?hd (cs := #[.int .i64 a0_0, .int .i64 a0_1, .int .i64 a0_2, .int .i64 a0_3, .int .i64 a0_4, .bool a0_5, .bool a0_6]) (t := 25) ?hr ?_; (case hd => rfl); (case hg => rfl); (case hr => first | (go_simp; done) | (go_simp; rfl)); intro gb680 hg w12 hbox hb; have BK680 := Aside0.mk (hbox); have GW680 := hz_ hg HB; have GE680 := hz_ hg HB; replace HB := hs HB hb; clear hb hbox hg) | ((with_reducible refine gate_dst (N := 2) rfl ?_); refine box_event ?hg (N := 2) ?hd (cs := #[.int .i64 0, .int .i64 0, .int .i64 0, .int .i64 0, .int .i64 0, .bool false, .bool false]) (t := 25) ?hr ?_; (case hd => rfl); (case hg => rfl); (case hr => first | (go_simp; done) | (go_simp; rfl)); intro gb681 hg w13 hbox hb; have BK681 := Aside0.mk (hbox); have GW681 := Aside0.mk ((by rw [hg]; exact (below_size (by repeat first | (with_reducible exact HB.out) | refine bl1 ?_ | (with_reducible refine bset ?_ ‹_›) | exact HB.out)) : w.heap.size ≤ gb681)); have GE681 := Aside0.mk ((by rw [hg]; exact (below_size (by repeat first | (with_reducible exact HB.out) | refine bl1 ?_ | (with_reducible refine bset ?_ ‹_›) | exact HB.out)) : w.heap.size ≤ gb681)); have NB680_681 := nlk hg BK680; have NB681_680 := ngk hg BK680; replace BK680 := kb BK680 hb; replace HB := Aside0.mk (below_step (by repeat first | (with_reducible exact HB.out) | refine bl1 ?_ | (with_reducible refine bset ?_ ‹_›) | exact HB.out) hb); clear hb hbox hg; have hnb14 := NB680_681.out; have hnc14 := NB681_680.out; obtain ⟨hcz15_0, hcz15_1, hcz15_2, hcz15_3, hcz15_4, hcz15_5, hcz15_6⟩ := bc7 BK680.out; obtain ⟨hfz15_0, hfz15_1, hfz15_2, hfz15_3, hfz15_4, hfz15_5, hfz15_6⟩ := bf7 BK680.out) | ((with_reducible refine gate_callee (f := 44) rfl ?_); refine goesL_ (some 4) rfl rfl Tryd.func44 (by kernel_rfl) rfl #[.agg #[.int .i64 a0_0, .int .i64 a0_1, .int .i64 a0_2, .int .i64 a0_3, .int .i64 a0_4, .bool a0_5, .bool a0_6]] rfl (by (try simp only [mp]); first | done | rfl | (simp only [ld]; rfl)) ?_; (with_reducible refine (serinetteref03_Valid.calls k a0_0 a0_1 a0_2 a0_3 a0_4 a0_5 a0_6 false _ A2.out).mono ?_); rintro e w16 ⟨rfl, hb⟩; refine ⟨_, rfl, ?_⟩; replace BK680 := kb BK680 hb; replace BK681 := kb BK681 hb; replace HB := Aside0.mk (below_step (by repeat first | (with_reducible exact HB.out) | refine bl1 ?_ | (with_reducible refine bset ?_ ‹_›) | exact HB.out) hb); (try clear hb); (try clear hb2); (try clear hk); (try clear hi)) | ((with_reducible refine gate_callee (f := 45) rfl ?_); refine goesL_ (some 6) rfl rfl Tryd.func45 (by kernel_rfl) rfl #[] rfl (by (try simp only [mp]); first | done | rfl | (simp only [ld]; rfl)) ?_; (with_reducible refine (serinetteref03_All.calls  t683 t684 t685 t686 t687 t688 t689 _ A11.out).mono ?_); rintro e w17 ⟨rfl, hb⟩; refine ⟨_, rfl, ?_⟩; replace BK680 := kb BK680 hb; replace BK681 := kb BK681 hb; replace HB := Aside0.mk (below_step (by repeat first | (with_reducible exact HB.out) | refine bl1 ?_ | (with_reducible refine bset ?_ ‹_›) | exact HB.out) hb); (try clear hb); (try clear hb2); (try clear hk); (try clear hi); obtain ⟨hcz18_0, hcz18_1, hcz18_2, hcz18_3, hcz18_4, hcz18_5, hcz18_6⟩ := bc7 BK681.out; obtain ⟨hfz18_0, hfz18_1, hfz18_2, hfz18_3, hfz18_4, hfz18_5, hfz18_6⟩ := bf7 BK681.out)); refine bodyPost_ret (results_cell_row rfl _ _ gb681 25 #[.int .i64 t683, .int .i64 t684, .int .i64 t685, .int .i64 t686, .int .i64 t687, .bool t688, .bool t689] (0, 0) _ rfl (by exact rq BK681.out (by rfl)) Tryd.underlying25 rfl (by kernel_rfl)) rfl ?_; exact ⟨by first | rfl | (simp [errW_none, errW_some] <;> rfl) | (simp [*, errW_none, errW_some] <;> rfl), by repeat first | (with_reducible exact HB.out) | (with_reducible refine bset ?_ ‹_›) | refine bl1 ?_ | exact HB.out⟩
def serinetteref03_Has.j0 : Nat → Bool → Int → Int → Int → Int → Int → Bool → Bool → Int → Int → Option (Bool)
 | 0, _, _, _, _, _, _, _, _, _, _ => none
 | k + 1, x37, x691000, x691001, x691002, x691003, x691004, x691005, x691006, x692000, x692001 => if x37 = true then (some false) else (if x691004 = 0 then (some true) else (if x692001 = 0 then (none) else (some ((Int.tmod x691004 x692001) == 0))))
def serinetteref03_Has.f (k : Nat) (a0_0 : Int) (a0_1 : Int) (a0_2 : Int) (a0_3 : Int) (a0_4 : Int) (a0_5 : Bool) (a0_6 : Bool) (a1_0 : Int) (a1_1 : Int) : Option (Bool) := (serinetteref03_Clean.f k a0_0 a0_1 a0_2 a0_3 a0_4 a0_5 a0_6).bind fun bt692 => ((serinetteref01_Is.f k a1_0 a1_1).bind fun t699 => (if t699 = true then (if bt692.2.2.2.2.2.2 = true then (serinetteref03_Has.j0 k true bt692.1 bt692.2.1 bt692.2.2.1 bt692.2.2.2.1 bt692.2.2.2.2.1 bt692.2.2.2.2.2.1 bt692.2.2.2.2.2.2 a1_0 a1_1) else ((serinetteref01_Is.f k bt692.1 bt692.2.1).bind fun t700 => (if t700 = true then ((serinetteref01_Cmp.f k a1_0 a1_1 bt692.1 bt692.2.1).bind fun t701 => (if t701 < 0 then (serinetteref03_Has.j0 k true bt692.1 bt692.2.1 bt692.2.2.1 bt692.2.2.2.1 bt692.2.2.2.2.1 bt692.2.2.2.2.2.1 bt692.2.2.2.2.2.2 a1_0 a1_1) else ((serinetteref01_Is.f k bt692.2.2.1 bt692.2.2.2.1).bind fun t702 => (if t702 = true then ((serinetteref01_Cmp.f k a1_0 a1_1 bt692.2.2.1 bt692.2.2.2.1).bind fun t703 => (serinetteref03_Has.j0 k (decide (t703 > 0)) bt692.1 bt692.2.1 bt692.2.2.1 bt692.2.2.2.1 bt692.2.2.2.2.1 bt692.2.2.2.2.2.1 bt692.2.2.2.2.2.2 a1_0 a1_1)) else (serinetteref03_Has.j0 k false bt692.1 bt692.2.1 bt692.2.2.1 bt692.2.2.2.1 bt692.2.2.2.2.1 bt692.2.2.2.2.2.1 bt692.2.2.2.2.2.2 a1_0 a1_1))))) else ((serinetteref01_Is.f k bt692.2.2.1 bt692.2.2.2.1).bind fun t704 => (if t704 = true then ((serinetteref01_Cmp.f k a1_0 a1_1 bt692.2.2.1 bt692.2.2.2.1).bind fun t705 => (serinetteref03_Has.j0 k (decide (t705 > 0)) bt692.1 bt692.2.1 bt692.2.2.1 bt692.2.2.2.1 bt692.2.2.2.2.1 bt692.2.2.2.2.2.1 bt692.2.2.2.2.2.2 a1_0 a1_1)) else (serinetteref03_Has.j0 k false bt692.1 bt692.2.1 bt692.2.2.1 bt692.2.2.2.1 bt692.2.2.2.2.1 bt692.2.2.2.2.2.1 bt692.2.2.2.2.2.2 a1_0 a1_1)))))) else (some bt692.2.2.2.2.2.1)))
theorem serinetteref03_Has.mono_l : ∀ k, (∀ y0 y1 y2 y3 y4 y5 y6 y7 y8 y9, LeO (serinetteref03_Has.j0 k y0 y1 y2 y3 y4 y5 y6 y7 y8 y9) (serinetteref03_Has.j0 (k + 1) y0 y1 y2 y3 y4 y5 y6 y7 y8 y9))
 | 0 => fun _ _ _ _ _ _ _ _ _ _ r h => by simp [serinetteref03_Has.j0] at h
 | k + 1 => by
  have ih0 := serinetteref03_Has.mono_l k
  ·
   intro y0 y1 y2 y3 y4 y5 y6 y7 y8 y9
   unfold serinetteref03_Has.j0
   repeat' first
   | (with_reducible exact ih0 _ _ _ _ _ _ _ _ _ _)
   | (with_reducible exact serinetteref01_Cmp.mono _ _ _ _ _)
   | (with_reducible exact serinetteref01_Is.mono _ _ _)
   | (with_reducible exact serinetteref03_Clean.mono _ _ _ _ _ _ _ _)
   | (with_reducible exact LeO.refl _)
   | (with_reducible exact LeO.none _)
   | (with_reducible refine LeO.ite ?_ ?_)
   | (with_reducible refine LeO.bind ?_ (fun _ => ?_))
   | exact ih0 _ _ _ _ _ _ _ _ _ _
   | exact serinetteref01_Cmp.mono _ _ _ _ _
   | exact serinetteref01_Is.mono _ _ _
   | exact serinetteref03_Clean.mono _ _ _ _ _ _ _ _
   | exact LeO.none _
   | refine LeO.ite ?_ ?_
   | refine LeO.bind ?_ (fun _ => ?_)
theorem serinetteref03_Has.mono : ∀ a0 a1 a2 a3 a4 a5 a6 a7 a8 k, LeO (serinetteref03_Has.f k a0 a1 a2 a3 a4 a5 a6 a7 a8) (serinetteref03_Has.f (k + 1) a0 a1 a2 a3 a4 a5 a6 a7 a8) := by
 intro a0 a1 a2 a3 a4 a5 a6 a7 a8 k
 have ih0 := serinetteref03_Has.mono_l k
 unfold serinetteref03_Has.f
 repeat' first
   | (with_reducible exact ih0 _ _ _ _ _ _ _ _ _ _)
   | (with_reducible exact serinetteref01_Cmp.mono _ _ _ _ _)
   | (with_reducible exact serinetteref01_Is.mono _ _ _)
   | (with_reducible exact serinetteref03_Clean.mono _ _ _ _ _ _ _ _)
   | (with_reducible exact LeO.refl _)
   | (with_reducible exact LeO.none _)
   | (with_reducible refine LeO.ite ?_ ?_)
   | (with_reducible refine LeO.bind ?_ (fun _ => ?_))
   | exact ih0 _ _ _ _ _ _ _ _ _ _
   | exact serinetteref01_Cmp.mono _ _ _ _ _
   | exact serinetteref01_Is.mono _ _ _
   | exact serinetteref03_Clean.mono _ _ _ _ _ _ _ _
   | exact LeO.none _
   | refine LeO.ite ?_ ?_
   | refine LeO.bind ?_ (fun _ => ?_)
set_option maxHeartbeats 8000000 in
set_option maxRecDepth 100000 in
theorem serinetteref03_Has.calls (k : Nat) (a0_0 : Int) (a0_1 : Int) (a0_2 : Int) (a0_3 : Int) (a0_4 : Int) (a0_5 : Bool) (a0_6 : Bool) (a1_0 : Int) (a1_1 : Int) (r : Bool) (w : World) (h : serinetteref03_Has.f k a0_0 a0_1 a0_2 a0_3 a0_4 a0_5 a0_6 a1_0 a1_1 = some r) :
  Calls Tryd.prog 10 #[.agg #[.int .i64 a0_0, .int .i64 a0_1, .int .i64 a0_2, .int .i64 a0_3, .int .i64 a0_4, .bool a0_5, .bool a0_6], .agg #[.int .i64 a1_0, .int .i64 a1_1]] w fun e w' => e = .returned (.bool r) ∧ Below w.heap.size w w' := by
 have hu25 := Tryd.underlying25; have hu23 := Tryd.underlying23; have HB := Aside0.mk (Below.refl w.heap.size w); have H : ((serinetteref03_Clean.f k a0_0 a0_1 a0_2 a0_3 a0_4 a0_5 a0_6).bind fun bt692 => ((serinetteref01_Is.f k a1_0 a1_1).bind fun t699 => (if t699 = true then (if bt692.2.2.2.2.2.2 = true then (serinetteref03_Has.j0 k true bt692.1 bt692.2.1 bt692.2.2.1 bt692.2.2.2.1 bt692.2.2.2.2.1 bt692.2.2.2.2.2.1 bt692.2.2.2.2.2.2 a1_0 a1_1) else ((serinetteref01_Is.f k bt692.1 bt692.2.1).bind fun t700 => (if t700 = true then ((serinetteref01_Cmp.f k a1_0 a1_1 bt692.1 bt692.2.1).bind fun t701 => (if t701 < 0 then (serinetteref03_Has.j0 k true bt692.1 bt692.2.1 bt692.2.2.1 bt692.2.2.2.1 bt692.2.2.2.2.1 bt692.2.2.2.2.2.1 bt692.2.2.2.2.2.2 a1_0 a1_1) else ((serinetteref01_Is.f k bt692.2.2.1 bt692.2.2.2.1).bind fun t702 => (if t702 = true then ((serinetteref01_Cmp.f k a1_0 a1_1 bt692.2.2.1 bt692.2.2.2.1).bind fun t703 => (serinetteref03_Has.j0 k (decide (t703 > 0)) bt692.1 bt692.2.1 bt692.2.2.1 bt692.2.2.2.1 bt692.2.2.2.2.1 bt692.2.2.2.2.2.1 bt692.2.2.2.2.2.2 a1_0 a1_1)) else (serinetteref03_Has.j0 k false bt692.1 bt692.2.1 bt692.2.2.1 bt692.2.2.2.1 bt692.2.2.2.2.1 bt692.2.2.2.2.2.1 bt692.2.2.2.2.2.2 a1_0 a1_1))))) else ((serinetteref01_Is.f k bt692.2.2.1 bt692.2.2.2.1).bind fun t704 => (if t704 = true then ((serinetteref01_Cmp.f k a1_0 a1_1 bt692.2.2.1 bt692.2.2.2.1).bind fun t705 => (serinetteref03_Has.j0 k (decide (t705 > 0)) bt692.1 bt692.2.1 bt692.2.2.1 bt692.2.2.2.1 bt692.2.2.2.2.1 bt692.2.2.2.2.2.1 bt692.2.2.2.2.2.2 a1_0 a1_1)) else (serinetteref03_Has.j0 k false bt692.1 bt692.2.1 bt692.2.2.1 bt692.2.2.2.1 bt692.2.2.2.2.1 bt692.2.2.2.2.2.1 bt692.2.2.2.2.2.2 a1_0 a1_1)))))) else (some bt692.2.2.2.2.2.1)))) = some r := h; clear h; replace H := Option.bind_eq_some_iff.mp H; obtain ⟨⟨t692, t693, t694, t695, t696, t697, t698⟩, A30, H⟩ := H; (try dsimp only at H); have A3 := Aside0.mk A30; clear A30; replace H := Option.bind_eq_some_iff.mp H; obtain ⟨t699, A40, H⟩ := H; (try dsimp only at H); have A4 := Aside0.mk A40; clear A40; by_cases c5 : t699 = true
 ·
  subst c5; rw [if_pos rfl] at H; have HC6 := Aside0.mk H; clear H; go_enter Tryd.func10, Tryd.ntmps10; go_upto_region 4 with (first | ((with_reducible refine gate_dst (N := 2) rfl ?_); refine box_event ?hg (N := 2) ?hd (cs := #[.int .i64 a0_0, .int .i64 a0_1, .int .i64 a0_2, .int .i64 a0_3, .int .i64 a0_4, .bool a0_5, .bool a0_6]) (t := 25) ?hr ?_; (case hd => rfl); (case hg => rfl); (case hr => first | (go_simp; done) | (go_simp; rfl)); intro gb690 hg w7 hbox hb; have BK690 := Aside0.mk (hbox); have GW690 := hz_ hg HB; have GE690 := hz_ hg HB; replace HB := hs HB hb; clear hb hbox hg) | ((with_reducible refine gate_dst (N := 3) rfl ?_); refine box_event ?hg (N := 3) ?hd (cs := #[.int .i64 a1_0, .int .i64 a1_1]) (t := 23) ?hr ?_; (case hd => rfl); (case hg => rfl); (case hr => first | (go_simp; done) | (go_simp; rfl)); intro gb691 hg w8 hbox hb; have BK691 := Aside0.mk (hbox); have GW691 := Aside0.mk ((by rw [hg]; exact (below_size (by repeat first | (with_reducible exact HB.out) | refine bl1 ?_ | (with_reducible refine bset ?_ ‹_›) | exact HB.out)) : w.heap.size ≤ gb691)); have GE691 := Aside0.mk ((by rw [hg]; exact (below_size (by repeat first | (with_reducible exact HB.out) | refine bl1 ?_ | (with_reducible refine bset ?_ ‹_›) | exact HB.out)) : w.heap.size ≤ gb691)); have NB690_691 := nlk hg BK690; have NB691_690 := ngk hg BK690; replace BK690 := kb BK690 hb; replace HB := Aside0.mk (below_step (by repeat first | (with_reducible exact HB.out) | refine bl1 ?_ | (with_reducible refine bset ?_ ‹_›) | exact HB.out) hb); clear hb hbox hg; have hnb9 := NB690_691.out; have hnc9 := NB691_690.out; obtain ⟨hcz10_0, hcz10_1, hcz10_2, hcz10_3, hcz10_4, hcz10_5, hcz10_6⟩ := bc7 BK690.out; obtain ⟨hfz10_0, hfz10_1, hfz10_2, hfz10_3, hfz10_4, hfz10_5, hfz10_6⟩ := bf7 BK690.out) | ((with_reducible refine gate_callee (f := 28) rfl ?_); refine goesL_ (some 6) rfl rfl Tryd.func28 (by kernel_rfl) rfl #[.agg #[.int .i64 a0_0, .int .i64 a0_1, .int .i64 a0_2, .int .i64 a0_3, .int .i64 a0_4, .bool a0_5, .bool a0_6]] rfl (by (try simp only [mp]); first | done | rfl | (simp only [ld]; rfl)) ?_; (with_reducible refine (serinetteref03_Clean.calls k a0_0 a0_1 a0_2 a0_3 a0_4 a0_5 a0_6 t692 t693 t694 t695 t696 t697 t698 _ A3.out).mono ?_); rintro e w11 ⟨rfl, hb⟩; refine ⟨_, rfl, ?_⟩; replace BK690 := kb BK690 hb; replace BK691 := kb BK691 hb; replace HB := Aside0.mk (below_step (by repeat first | (with_reducible exact HB.out) | refine bl1 ?_ | (with_reducible refine bset ?_ ‹_›) | exact HB.out) hb); (try clear hb); (try clear hb2); (try clear hk); (try clear hi); obtain ⟨hcz12_0, hcz12_1, hcz12_2, hcz12_3, hcz12_4, hcz12_5, hcz12_6⟩ := bc7 BK690.out; obtain ⟨hfz12_0, hfz12_1, hfz12_2, hfz12_3, hfz12_4, hfz12_5, hfz12_6⟩ := bf7 BK690.out; obtain ⟨hcz13_0, hcz13_1⟩ := bc2 BK691.out; obtain ⟨hfz13_0, hfz13_1⟩ := bf2 BK691.out) | ((with_reducible refine gate_callee (f := 19) rfl ?_); refine goesL_ (some 8) rfl rfl Tryd.func19 (by kernel_rfl) rfl #[.agg #[.int .i64 a1_0, .int .i64 a1_1]] rfl (by (try simp only [mp]); first | done | rfl | (simp only [ld]; rfl)) ?_; (with_reducible refine (serinetteref01_Is.calls k a1_0 a1_1 true _ A4.out).mono ?_); rintro e w14 ⟨rfl, hb⟩; refine ⟨_, rfl, ?_⟩; replace BK690 := Aside0.mk (blk_below (g := gb690) (o := .cells #[.int .i64 t692, .int .i64 t693, .int .i64 t694, .int .i64 t695, .int .i64 t696, .bool t697, .bool t698] 25 (0, 0)) (by exact rq BK690.out (by rfl)) hb); replace BK691 := Aside0.mk (blk_below (g := gb691) (o := .cells #[.int .i64 a1_0, .int .i64 a1_1] 23 (0, 0)) (by refine bk ?_; refine blk_far ?_ NB691_690.out _; refine bk ?_; refine blk_far ?_ NB691_690.out _; refine bk ?_; refine blk_far ?_ NB691_690.out _; refine bk ?_; refine blk_far ?_ NB691_690.out _; refine bk ?_; refine blk_far ?_ NB691_690.out _; refine bk ?_; refine blk_far ?_ NB691_690.out _; refine bk ?_; refine blk_far ?_ NB691_690.out _; refine bk ?_; exact BK691.out) hb); replace HB := Aside0.mk (below_step (by repeat first | (with_reducible exact HB.out) | refine bl1 ?_ | (with_reducible refine bset ?_ ‹_›) | exact HB.out) hb); (try clear hb); (try clear hb2); (try clear hk); (try clear hi))); (try simp only [Act.put, List.setIfInBounds_toArray, List.set_cons_zero, List.set_cons_succ])
  go_cut [37] (fun v37 wc => ∃ (kq : Nat) (x37_5 : Bool), v37 = .bool x37_5 ∧ Aside0 (serinetteref03_Has.j0 kq x37_5 t692 t693 t694 t695 t696 t697 t698 a1_0 a1_1 = some r) ∧ Aside0 (kq ≤ k) ∧ Aside0 (wc.heap[gb690]? = some (.cells #[.int .i64 t692, .int .i64 t693, .int .i64 t694, .int .i64 t695, .int .i64 t696, .bool t697, .bool t698] 25 (0, 0))) ∧ Aside0 (wc.heap[gb691]? = some (.cells #[.int .i64 a1_0, .int .i64 a1_1] 23 (0, 0))) ∧ Aside0 (Below w.heap.size w wc))
  case first =>
   have H := HC6.out; clear HC6; by_cases c15 : t698 = true
   ·
    subst c15; rw [if_pos rfl] at H; have H' := Aside0.mk H; clear H; have hnb16 := NB690_691.out; have hnc16 := NB691_690.out; obtain ⟨hcz17_0, hcz17_1, hcz17_2, hcz17_3, hcz17_4, hcz17_5, hcz17_6⟩ := bc7 BK690.out; obtain ⟨hfz17_0, hfz17_1, hfz17_2, hfz17_3, hfz17_4, hfz17_5, hfz17_6⟩ := bf7 BK690.out; go_wp2; go_meet
    case rel => exact ⟨_, (true), (by first | rfl | (simp; done) | (simp [*]; done)), H', ⟨by first | omega | exact Nat.le_refl _⟩, ⟨by refine bk ?_; exact BK690.out⟩, ⟨by refine bk ?_; exact BK691.out⟩, ⟨by repeat first | (with_reducible exact HB.out) | (with_reducible refine bset ?_ ‹_›) | refine bl1 ?_ | exact HB.out⟩⟩
   ·
    replace c15 := Bool.eq_false_iff.mpr c15; subst c15; rw [if_neg (show ¬ (false = true) by decide)] at H; replace H := Option.bind_eq_some_iff.mp H; obtain ⟨t700, A180, H⟩ := H; (try dsimp only at H); have A18 := Aside0.mk A180; clear A180; by_cases c19 : t700 = true
    ·
     subst c19; rw [if_pos rfl] at H; replace H := Option.bind_eq_some_iff.mp H; obtain ⟨t701, A200, H⟩ := H; (try dsimp only at H); have A20 := Aside0.mk A200; clear A200; by_cases c21 : t701 < 0
     ·
      rw [if_pos c21] at H; have c21b0 : decide (t701 < 0) = true := decide_eq_true c21; clear c21; (first | rw [c21b0] | (simp only [i64_w, i32_w]; rw [c21b0]) | skip); have H' := Aside0.mk H; clear H; have hnb22 := NB690_691.out; have hnc22 := NB691_690.out; obtain ⟨hcz23_0, hcz23_1, hcz23_2, hcz23_3, hcz23_4, hcz23_5, hcz23_6⟩ := bc7 BK690.out; obtain ⟨hfz23_0, hfz23_1, hfz23_2, hfz23_3, hfz23_4, hfz23_5, hfz23_6⟩ := bf7 BK690.out; go_wp2_with (first | (go_at_call 19; (with_reducible refine (serinetteref01_Is.calls k t692 t693 true _ A18.out).mono ?_); rintro e w24 ⟨rfl, hb⟩; replace BK690 := kb BK690 hb; replace BK691 := kb BK691 hb; replace HB := Aside0.mk (below_step (by repeat first | (with_reducible exact HB.out) | refine bl1 ?_ | (with_reducible refine bset ?_ ‹_›) | exact HB.out) hb); (try clear hb); (try clear hb2); (try clear hk); (try clear hi); obtain ⟨hcz25_0, hcz25_1⟩ := bc2 BK691.out; obtain ⟨hfz25_0, hfz25_1⟩ := bf2 BK691.out; obtain ⟨hcz26_0, hcz26_1, hcz26_2, hcz26_3, hcz26_4, hcz26_5, hcz26_6⟩ := bc7 BK690.out; obtain ⟨hfz26_0, hfz26_1, hfz26_2, hfz26_3, hfz26_4, hfz26_5, hfz26_6⟩ := bf7 BK690.out) | (go_at_call 20; (with_reducible refine (serinetteref01_Cmp.calls k a1_0 a1_1 t692 t693 t701 _ A20.out).mono ?_); rintro e w27 ⟨rfl, hb⟩; replace BK690 := kb BK690 hb; replace BK691 := kb BK691 hb; replace HB := Aside0.mk (below_step (by repeat first | (with_reducible exact HB.out) | refine bl1 ?_ | (with_reducible refine bset ?_ ‹_›) | exact HB.out) hb); (try clear hb); (try clear hb2); (try clear hk); (try clear hi))); go_meet
      case rel => exact ⟨_, (true), (by first | rfl | (simp; done) | (simp [*]; done)), H', ⟨by first | omega | exact Nat.le_refl _⟩, ⟨by refine bk ?_; exact BK690.out⟩, ⟨by refine bk ?_; exact BK691.out⟩, ⟨by repeat first | (with_reducible exact HB.out) | (with_reducible refine bset ?_ ‹_›) | refine bl1 ?_ | exact HB.out⟩⟩
     ·
      rw [if_neg c21] at H; have c21b0 : decide (t701 < 0) = false := decide_eq_false c21; clear c21; (first | rw [c21b0] | (simp only [i64_w, i32_w]; rw [c21b0]) | skip); replace H := Option.bind_eq_some_iff.mp H; obtain ⟨t702, A280, H⟩ := H; (try dsimp only at H); have A28 := Aside0.mk A280; clear A280; by_cases c29 : t702 = true
      ·
       subst c29; rw [if_pos rfl] at H; replace H := Option.bind_eq_some_iff.mp H; obtain ⟨t703, A300, H⟩ := H; (try dsimp only at H); have A30 := Aside0.mk A300; clear A300; have H' := Aside0.mk H; clear H; have hnb31 := NB690_691.out; have hnc31 := NB691_690.out; obtain ⟨hcz32_0, hcz32_1, hcz32_2, hcz32_3, hcz32_4, hcz32_5, hcz32_6⟩ := bc7 BK690.out; obtain ⟨hfz32_0, hfz32_1, hfz32_2, hfz32_3, hfz32_4, hfz32_5, hfz32_6⟩ := bf7 BK690.out; go_wp2_with (first | (go_at_call 19; (with_reducible refine (serinetteref01_Is.calls k t692 t693 true _ A18.out).mono ?_); rintro e w33 ⟨rfl, hb⟩; replace BK690 := kb BK690 hb; replace BK691 := kb BK691 hb; replace HB := Aside0.mk (below_step (by repeat first | (with_reducible exact HB.out) | refine bl1 ?_ | (with_reducible refine bset ?_ ‹_›) | exact HB.out) hb); (try clear hb); (try clear hb2); (try clear hk); (try clear hi); obtain ⟨hcz34_0, hcz34_1⟩ := bc2 BK691.out; obtain ⟨hfz34_0, hfz34_1⟩ := bf2 BK691.out; obtain ⟨hcz35_0, hcz35_1, hcz35_2, hcz35_3, hcz35_4, hcz35_5, hcz35_6⟩ := bc7 BK690.out; obtain ⟨hfz35_0, hfz35_1, hfz35_2, hfz35_3, hfz35_4, hfz35_5, hfz35_6⟩ := bf7 BK690.out) | (go_at_call 20; (with_reducible refine (serinetteref01_Cmp.calls k a1_0 a1_1 t692 t693 t701 _ A20.out).mono ?_); rintro e w36 ⟨rfl, hb⟩; replace BK690 := kb BK690 hb; replace BK691 := kb BK691 hb; replace HB := Aside0.mk (below_step (by repeat first | (with_reducible exact HB.out) | refine bl1 ?_ | (with_reducible refine bset ?_ ‹_›) | exact HB.out) hb); (try clear hb); (try clear hb2); (try clear hk); (try clear hi); obtain ⟨hcz37_0, hcz37_1, hcz37_2, hcz37_3, hcz37_4, hcz37_5, hcz37_6⟩ := bc7 BK690.out; obtain ⟨hfz37_0, hfz37_1, hfz37_2, hfz37_3, hfz37_4, hfz37_5, hfz37_6⟩ := bf7 BK690.out) | (go_at_call 19; (with_reducible refine (serinetteref01_Is.calls k t694 t695 true _ A28.out).mono ?_); rintro e w38 ⟨rfl, hb⟩; replace BK690 := kb BK690 hb; replace BK691 := kb BK691 hb; replace HB := Aside0.mk (below_step (by repeat first | (with_reducible exact HB.out) | refine bl1 ?_ | (with_reducible refine bset ?_ ‹_›) | exact HB.out) hb); (try clear hb); (try clear hb2); (try clear hk); (try clear hi); obtain ⟨hcz39_0, hcz39_1⟩ := bc2 BK691.out; obtain ⟨hfz39_0, hfz39_1⟩ := bf2 BK691.out; obtain ⟨hcz40_0, hcz40_1, hcz40_2, hcz40_3, hcz40_4, hcz40_5, hcz40_6⟩ := bc7 BK690.out; obtain ⟨hfz40_0, hfz40_1, hfz40_2, hfz40_3, hfz40_4, hfz40_5, hfz40_6⟩ := bf7 BK690.out) | (go_at_call 20; (with_reducible refine (serinetteref01_Cmp.calls k a1_0 a1_1 t694 t695 t703 _ A30.out).mono ?_); rintro e w41 ⟨rfl, hb⟩; replace BK690 := kb BK690 hb; replace BK691 := kb BK691 hb; replace HB := Aside0.mk (below_step (by repeat first | (with_reducible exact HB.out) | refine bl1 ?_ | (with_reducible refine bset ?_ ‹_›) | exact HB.out) hb); (try clear hb); (try clear hb2); (try clear hk); (try clear hi))); go_meet
       case rel => exact ⟨_, (decide (t703 > 0)), (by first | rfl | (simp; done) | (simp [*]; done)), H', ⟨by first | omega | exact Nat.le_refl _⟩, ⟨by refine bk ?_; exact BK690.out⟩, ⟨by refine bk ?_; exact BK691.out⟩, ⟨by repeat first | (with_reducible exact HB.out) | (with_reducible refine bset ?_ ‹_›) | refine bl1 ?_ | exact HB.out⟩⟩
      ·
       replace c29 := Bool.eq_false_iff.mpr c29; subst c29; rw [if_neg (show ¬ (false = true) by decide)] at H; have H' := Aside0.mk H; clear H; have hnb42 := NB690_691.out; have hnc42 := NB691_690.out; obtain ⟨hcz43_0, hcz43_1, hcz43_2, hcz43_3, hcz43_4, hcz43_5, hcz43_6⟩ := bc7 BK690.out; obtain ⟨hfz43_0, hfz43_1, hfz43_2, hfz43_3, hfz43_4, hfz43_5, hfz43_6⟩ := bf7 BK690.out; go_wp2_with (first | (go_at_call 19; (with_reducible refine (serinetteref01_Is.calls k t692 t693 true _ A18.out).mono ?_); rintro e w44 ⟨rfl, hb⟩; replace BK690 := kb BK690 hb; replace BK691 := kb BK691 hb; replace HB := Aside0.mk (below_step (by repeat first | (with_reducible exact HB.out) | refine bl1 ?_ | (with_reducible refine bset ?_ ‹_›) | exact HB.out) hb); (try clear hb); (try clear hb2); (try clear hk); (try clear hi); obtain ⟨hcz45_0, hcz45_1⟩ := bc2 BK691.out; obtain ⟨hfz45_0, hfz45_1⟩ := bf2 BK691.out; obtain ⟨hcz46_0, hcz46_1, hcz46_2, hcz46_3, hcz46_4, hcz46_5, hcz46_6⟩ := bc7 BK690.out; obtain ⟨hfz46_0, hfz46_1, hfz46_2, hfz46_3, hfz46_4, hfz46_5, hfz46_6⟩ := bf7 BK690.out) | (go_at_call 20; (with_reducible refine (serinetteref01_Cmp.calls k a1_0 a1_1 t692 t693 t701 _ A20.out).mono ?_); rintro e w47 ⟨rfl, hb⟩; replace BK690 := kb BK690 hb; replace BK691 := kb BK691 hb; replace HB := Aside0.mk (below_step (by repeat first | (with_reducible exact HB.out) | refine bl1 ?_ | (with_reducible refine bset ?_ ‹_›) | exact HB.out) hb); (try clear hb); (try clear hb2); (try clear hk); (try clear hi); obtain ⟨hcz48_0, hcz48_1, hcz48_2, hcz48_3, hcz48_4, hcz48_5, hcz48_6⟩ := bc7 BK690.out; obtain ⟨hfz48_0, hfz48_1, hfz48_2, hfz48_3, hfz48_4, hfz48_5, hfz48_6⟩ := bf7 BK690.out) | (go_at_call 19; (with_reducible refine (serinetteref01_Is.calls k t694 t695 false _ A28.out).mono ?_); rintro e w49 ⟨rfl, hb⟩; replace BK690 := kb BK690 hb; replace BK691 := kb BK691 hb; replace HB := Aside0.mk (below_step (by repeat first | (with_reducible exact HB.out) | refine bl1 ?_ | (with_reducible refine bset ?_ ‹_›) | exact HB.out) hb); (try clear hb); (try clear hb2); (try clear hk); (try clear hi))); go_meet
       case rel => exact ⟨_, (false), (by first | rfl | (simp; done) | (simp [*]; done)), H', ⟨by first | omega | exact Nat.le_refl _⟩, ⟨by refine bk ?_; exact BK690.out⟩, ⟨by refine bk ?_; exact BK691.out⟩, ⟨by repeat first | (with_reducible exact HB.out) | (with_reducible refine bset ?_ ‹_›) | refine bl1 ?_ | exact HB.out⟩⟩
    ·
     replace c19 := Bool.eq_false_iff.mpr c19; subst c19; rw [if_neg (show ¬ (false = true) by decide)] at H; replace H := Option.bind_eq_some_iff.mp H; obtain ⟨t704, A500, H⟩ := H; (try dsimp only at H); have A50 := Aside0.mk A500; clear A500; by_cases c51 : t704 = true
     ·
      subst c51; rw [if_pos rfl] at H; replace H := Option.bind_eq_some_iff.mp H; obtain ⟨t705, A520, H⟩ := H; (try dsimp only at H); have A52 := Aside0.mk A520; clear A520; have H' := Aside0.mk H; clear H; have hnb53 := NB690_691.out; have hnc53 := NB691_690.out; obtain ⟨hcz54_0, hcz54_1, hcz54_2, hcz54_3, hcz54_4, hcz54_5, hcz54_6⟩ := bc7 BK690.out; obtain ⟨hfz54_0, hfz54_1, hfz54_2, hfz54_3, hfz54_4, hfz54_5, hfz54_6⟩ := bf7 BK690.out; go_wp2_with (first | (go_at_call 19; (with_reducible refine (serinetteref01_Is.calls k t692 t693 false _ A18.out).mono ?_); rintro e w55 ⟨rfl, hb⟩; replace BK690 := kb BK690 hb; replace BK691 := kb BK691 hb; replace HB := Aside0.mk (below_step (by repeat first | (with_reducible exact HB.out) | refine bl1 ?_ | (with_reducible refine bset ?_ ‹_›) | exact HB.out) hb); (try clear hb); (try clear hb2); (try clear hk); (try clear hi); obtain ⟨hcz56_0, hcz56_1, hcz56_2, hcz56_3, hcz56_4, hcz56_5, hcz56_6⟩ := bc7 BK690.out; obtain ⟨hfz56_0, hfz56_1, hfz56_2, hfz56_3, hfz56_4, hfz56_5, hfz56_6⟩ := bf7 BK690.out) | (go_at_call 19; (with_reducible refine (serinetteref01_Is.calls k t694 t695 true _ A50.out).mono ?_); rintro e w57 ⟨rfl, hb⟩; replace BK690 := kb BK690 hb; replace BK691 := kb BK691 hb; replace HB := Aside0.mk (below_step (by repeat first | (with_reducible exact HB.out) | refine bl1 ?_ | (with_reducible refine bset ?_ ‹_›) | exact HB.out) hb); (try clear hb); (try clear hb2); (try clear hk); (try clear hi); obtain ⟨hcz58_0, hcz58_1⟩ := bc2 BK691.out; obtain ⟨hfz58_0, hfz58_1⟩ := bf2 BK691.out; obtain ⟨hcz59_0, hcz59_1, hcz59_2, hcz59_3, hcz59_4, hcz59_5, hcz59_6⟩ := bc7 BK690.out; obtain ⟨hfz59_0, hfz59_1, hfz59_2, hfz59_3, hfz59_4, hfz59_5, hfz59_6⟩ := bf7 BK690.out) | (go_at_call 20; (with_reducible refine (serinetteref01_Cmp.calls k a1_0 a1_1 t694 t695 t705 _ A52.out).mono ?_); rintro e w60 ⟨rfl, hb⟩; replace BK690 := kb BK690 hb; replace BK691 := kb BK691 hb; replace HB := Aside0.mk (below_step (by repeat first | (with_reducible exact HB.out) | refine bl1 ?_ | (with_reducible refine bset ?_ ‹_›) | exact HB.out) hb); (try clear hb); (try clear hb2); (try clear hk); (try clear hi))); go_meet
      case rel => exact ⟨_, (decide (t705 > 0)), (by first | rfl | (simp; done) | (simp [*]; done)), H', ⟨by first | omega | exact Nat.le_refl _⟩, ⟨by refine bk ?_; exact BK690.out⟩, ⟨by refine bk ?_; exact BK691.out⟩, ⟨by repeat first | (with_reducible exact HB.out) | (with_reducible refine bset ?_ ‹_›) | refine bl1 ?_ | exact HB.out⟩⟩
     ·
      replace c51 := Bool.eq_false_iff.mpr c51; subst c51; rw [if_neg (show ¬ (false = true) by decide)] at H; have H' := Aside0.mk H; clear H; have hnb61 := NB690_691.out; have hnc61 := NB691_690.out; obtain ⟨hcz62_0, hcz62_1, hcz62_2, hcz62_3, hcz62_4, hcz62_5, hcz62_6⟩ := bc7 BK690.out; obtain ⟨hfz62_0, hfz62_1, hfz62_2, hfz62_3, hfz62_4, hfz62_5, hfz62_6⟩ := bf7 BK690.out; go_wp2_with (first | (go_at_call 19; (with_reducible refine (serinetteref01_Is.calls k t692 t693 false _ A18.out).mono ?_); rintro e w63 ⟨rfl, hb⟩; replace BK690 := kb BK690 hb; replace BK691 := kb BK691 hb; replace HB := Aside0.mk (below_step (by repeat first | (with_reducible exact HB.out) | refine bl1 ?_ | (with_reducible refine bset ?_ ‹_›) | exact HB.out) hb); (try clear hb); (try clear hb2); (try clear hk); (try clear hi); obtain ⟨hcz64_0, hcz64_1, hcz64_2, hcz64_3, hcz64_4, hcz64_5, hcz64_6⟩ := bc7 BK690.out; obtain ⟨hfz64_0, hfz64_1, hfz64_2, hfz64_3, hfz64_4, hfz64_5, hfz64_6⟩ := bf7 BK690.out) | (go_at_call 19; (with_reducible refine (serinetteref01_Is.calls k t694 t695 false _ A50.out).mono ?_); rintro e w65 ⟨rfl, hb⟩; replace BK690 := kb BK690 hb; replace BK691 := kb BK691 hb; replace HB := Aside0.mk (below_step (by repeat first | (with_reducible exact HB.out) | refine bl1 ?_ | (with_reducible refine bset ?_ ‹_›) | exact HB.out) hb); (try clear hb); (try clear hb2); (try clear hk); (try clear hi))); go_meet
      case rel => exact ⟨_, (false), (by first | rfl | (simp; done) | (simp [*]; done)), H', ⟨by first | omega | exact Nat.le_refl _⟩, ⟨by refine bk ?_; exact BK690.out⟩, ⟨by refine bk ?_; exact BK691.out⟩, ⟨by repeat first | (with_reducible exact HB.out) | (with_reducible refine bset ?_ ‹_›) | refine bl1 ?_ | exact HB.out⟩⟩
  case rest =>
   clear HC6; (try clear c1); (try clear c2); (try clear p2); (try clear c3); (try clear c4); (try clear c5); (try clear c6); (try clear c9); (try clear c10); (try clear c15); (try clear c16); (try clear c19); (try clear c21); (try clear c21b0); (try clear c22); (try clear c28); (try clear c29); (try clear c31); (try clear c42); (try clear c51); (try clear c53); (try clear c61); (try clear hcz10_0); (try clear hcz10_1); (try clear hcz10_2); (try clear hcz10_3); (try clear hcz10_4); (try clear hcz10_5); (try clear hcz10_6); (try clear hcz12_0); (try clear hcz12_1); (try clear hcz12_2); (try clear hcz12_3); (try clear hcz12_4); (try clear hcz12_5); (try clear hcz12_6); (try clear hcz13_0); (try clear hcz13_1); (try clear hcz17_0); (try clear hcz17_1); (try clear hcz17_2); (try clear hcz17_3); (try clear hcz17_4); (try clear hcz17_5); (try clear hcz17_6); (try clear hcz23_0); (try clear hcz23_1); (try clear hcz23_2); (try clear hcz23_3); (try clear hcz23_4); (try clear hcz23_5); (try clear hcz23_6); (try clear hcz25_0); (try clear hcz25_1); (try clear hcz26_0); (try clear hcz26_1); (try clear hcz26_2); (try clear hcz26_3); (try clear hcz26_4); (try clear hcz26_5); (try clear hcz26_6); (try clear hcz32_0); (try clear hcz32_1); (try clear hcz32_2); (try clear hcz32_3); (try clear hcz32_4); (try clear hcz32_5); (try clear hcz32_6); (try clear hcz34_0); (try clear hcz34_1); (try clear hcz35_0); (try clear hcz35_1); (try clear hcz35_2); (try clear hcz35_3); (try clear hcz35_4); (try clear hcz35_5); (try clear hcz35_6); (try clear hcz37_0); (try clear hcz37_1); (try clear hcz37_2); (try clear hcz37_3); (try clear hcz37_4); (try clear hcz37_5); (try clear hcz37_6); (try clear hcz39_0); (try clear hcz39_1); (try clear hcz40_0); (try clear hcz40_1); (try clear hcz40_2); (try clear hcz40_3); (try clear hcz40_4); (try clear hcz40_5); (try clear hcz40_6); (try clear hcz43_0); (try clear hcz43_1); (try clear hcz43_2); (try clear hcz43_3); (try clear hcz43_4); (try clear hcz43_5); (try clear hcz43_6); (try clear hcz45_0); (try clear hcz45_1); (try clear hcz46_0); (try clear hcz46_1); (try clear hcz46_2); (try clear hcz46_3); (try clear hcz46_4); (try clear hcz46_5); (try clear hcz46_6); (try clear hcz48_0); (try clear hcz48_1); (try clear hcz48_2); (try clear hcz48_3); (try clear hcz48_4); (try clear hcz48_5); (try clear hcz48_6); (try clear hcz54_0); (try clear hcz54_1); (try clear hcz54_2); (try clear hcz54_3); (try clear hcz54_4); (try clear hcz54_5); (try clear hcz54_6); (try clear hcz56_0); (try clear hcz56_1); (try clear hcz56_2); (try clear hcz56_3); (try clear hcz56_4); (try clear hcz56_5); (try clear hcz56_6); (try clear hcz58_0); (try clear hcz58_1); (try clear hcz59_0); (try clear hcz59_1); (try clear hcz59_2); (try clear hcz59_3); (try clear hcz59_4); (try clear hcz59_5); (try clear hcz59_6); (try clear hcz62_0); (try clear hcz62_1); (try clear hcz62_2); (try clear hcz62_3); (try clear hcz62_4); (try clear hcz62_5); (try clear hcz62_6); (try clear hcz64_0); (try clear hcz64_1); (try clear hcz64_2); (try clear hcz64_3); (try clear hcz64_4); (try clear hcz64_5); (try clear hcz64_6); (try clear hfz10_0); (try clear hfz10_1); (try clear hfz10_2); (try clear hfz10_3); (try clear hfz10_4); (try clear hfz10_5); (try clear hfz10_6); (try clear hfz12_0); (try clear hfz12_1); (try clear hfz12_2); (try clear hfz12_3); (try clear hfz12_4); (try clear hfz12_5); (try clear hfz12_6); (try clear hfz13_0); (try clear hfz13_1); (try clear hfz17_0); (try clear hfz17_1); (try clear hfz17_2); (try clear hfz17_3); (try clear hfz17_4); (try clear hfz17_5); (try clear hfz17_6); (try clear hfz23_0); (try clear hfz23_1); (try clear hfz23_2); (try clear hfz23_3); (try clear hfz23_4); (try clear hfz23_5); (try clear hfz23_6); (try clear hfz25_0); (try clear hfz25_1); (try clear hfz26_0); (try clear hfz26_1); (try clear hfz26_2); (try clear hfz26_3); (try clear hfz26_4); (try clear hfz26_5); (try clear hfz26_6); (try clear hfz32_0); (try clear hfz32_1); (try clear hfz32_2); (try clear hfz32_3); (try clear hfz32_4); (try clear hfz32_5); (try clear hfz32_6); (try clear hfz34_0); (try clear hfz34_1); (try clear hfz35_0); (try clear hfz35_1); (try clear hfz35_2); (try clear hfz35_3); (try clear hfz35_4); (try clear hfz35_5); (try clear hfz35_6); (try clear hfz37_0); (try clear hfz37_1); (try clear hfz37_2); (try clear hfz37_3); (try clear hfz37_4); (try clear hfz37_5); (try clear hfz37_6); (try clear hfz39_0); (try clear hfz39_1); (try clear hfz40_0); (try clear hfz40_1); (try clear hfz40_2); (try clear hfz40_3); (try clear hfz40_4); (try clear hfz40_5); (try clear hfz40_6); (try clear hfz43_0); (try clear hfz43_1); (try clear hfz43_2); (try clear hfz43_3); (try clear hfz43_4); (try clear hfz43_5); (try clear hfz43_6); (try clear hfz45_0); (try clear hfz45_1); (try clear hfz46_0); (try clear hfz46_1); (try clear hfz46_2); (try clear hfz46_3); (try clear hfz46_4); (try clear hfz46_5); (try clear hfz46_6); (try clear hfz48_0); (try clear hfz48_1); (try clear hfz48_2); (try clear hfz48_3); (try clear hfz48_4); (try clear hfz48_5); (try clear hfz48_6); (try clear hfz54_0); (try clear hfz54_1); (try clear hfz54_2); (try clear hfz54_3); (try clear hfz54_4); (try clear hfz54_5); (try clear hfz54_6); (try clear hfz56_0); (try clear hfz56_1); (try clear hfz56_2); (try clear hfz56_3); (try clear hfz56_4); (try clear hfz56_5); (try clear hfz56_6); (try clear hfz58_0); (try clear hfz58_1); (try clear hfz59_0); (try clear hfz59_1); (try clear hfz59_2); (try clear hfz59_3); (try clear hfz59_4); (try clear hfz59_5); (try clear hfz59_6); (try clear hfz62_0); (try clear hfz62_1); (try clear hfz62_2); (try clear hfz62_3); (try clear hfz62_4); (try clear hfz62_5); (try clear hfz62_6); (try clear hfz64_0); (try clear hfz64_1); (try clear hfz64_2); (try clear hfz64_3); (try clear hfz64_4); (try clear hfz64_5); (try clear hfz64_6); obtain ⟨kq, x37_5, rfl, HA, HJ5, BK690, BK691, HB⟩ := hcut; cases kq with
   | zero => exact absurd HA.out (by simp [serinetteref03_Has.j0])
   | succ kj5 =>
    have H := HA.out; clear HA; simp only [serinetteref03_Has.j0] at H; by_cases c66 : x37_5 = true
    · subst c66; rw [if_pos rfl] at H; obtain rfl := Option.some.inj H; go_wp2; go_ret; exact ⟨by first | rfl | (simp [errW_none, errW_some] <;> rfl) | (simp [*, errW_none, errW_some] <;> rfl), by repeat first | (with_reducible exact HB.out) | (with_reducible refine bset ?_ ‹_›) | refine bl1 ?_ | exact HB.out⟩
    ·
     replace c66 := Bool.eq_false_iff.mpr c66; subst c66; rw [if_neg (show ¬ (false = true) by decide)] at H; by_cases c67 : t696 = 0
     · rw [if_pos c67] at H; have c67b0 : (t696 == 0) = true := beq_iff_eq.mpr c67; have c67b1 : (t696 != 0) = false := bne_eq_false_iff_eq.mpr c67; clear c67; obtain rfl := Option.some.inj H; have hnb68 := NB690_691.out; have hnc68 := NB691_690.out; obtain ⟨hcz69_0, hcz69_1, hcz69_2, hcz69_3, hcz69_4, hcz69_5, hcz69_6⟩ := bc7 BK690.out; obtain ⟨hfz69_0, hfz69_1, hfz69_2, hfz69_3, hfz69_4, hfz69_5, hfz69_6⟩ := bf7 BK690.out; go_wp2; go_ret; exact ⟨by first | rfl | (simp [errW_none, errW_some] <;> rfl) | (simp [*, errW_none, errW_some] <;> rfl), by repeat first | (with_reducible exact HB.out) | (with_reducible refine bset ?_ ‹_›) | refine bl1 ?_ | exact HB.out⟩
     ·
      rw [if_neg c67] at H; have c67b0 : (t696 == 0) = false := beq_eq_false_iff_ne.mpr c67; have c67b1 : (t696 != 0) = true := bne_iff_ne.mpr c67; by_cases c70 : a1_1 = 0
      · rw [if_pos c70] at H; exact absurd H (by simp)
      · rw [if_neg c70] at H; have c70b0 : (a1_1 == 0) = false := beq_eq_false_iff_ne.mpr c70; have c70b1 : (a1_1 != 0) = true := bne_iff_ne.mpr c70; obtain rfl := Option.some.inj H; have hnb71 := NB690_691.out; have hnc71 := NB691_690.out; obtain ⟨hcz72_0, hcz72_1, hcz72_2, hcz72_3, hcz72_4, hcz72_5, hcz72_6⟩ := bc7 BK690.out; obtain ⟨hfz72_0, hfz72_1, hfz72_2, hfz72_3, hfz72_4, hfz72_5, hfz72_6⟩ := bf7 BK690.out; obtain ⟨hcz73_0, hcz73_1⟩ := bc2 BK691.out; obtain ⟨hfz73_0, hfz73_1⟩ := bf2 BK691.out; go_wp2; go_ret; exact ⟨by first | rfl | (simp [errW_none, errW_some] <;> rfl) | (simp [*, errW_none, errW_some] <;> rfl), by repeat first | (with_reducible exact HB.out) | (with_reducible refine bset ?_ ‹_›) | refine bl1 ?_ | exact HB.out⟩
 · replace c5 := Bool.eq_false_iff.mpr c5; subst c5; rw [if_neg (show ¬ (false = true) by decide)] at H; obtain rfl := Option.some.inj H; go_enter Tryd.func10, Tryd.ntmps10; go_wp2_with (first | ((with_reducible refine gate_dst (N := 2) rfl ?_); refine box_event ?hg (N := 2) ?hd (cs := #[.int .i64 a0_0, .int .i64 a0_1, .int .i64 a0_2, .int .i64 a0_3, .int .i64 a0_4, .bool a0_5, .bool a0_6]) (t := 25) ?hr ?_; (case hd => rfl); (case hg => rfl); (case hr => first | (go_simp; done) | (go_simp; rfl)); intro gb690 hg w74 hbox hb; have BK690 := Aside0.mk (hbox); have GW690 := hz_ hg HB; have GE690 := hz_ hg HB; replace HB := hs HB hb; clear hb hbox hg) | ((with_reducible refine gate_dst (N := 3) rfl ?_); refine box_event ?hg (N := 3) ?hd (cs := #[.int .i64 a1_0, .int .i64 a1_1]) (t := 23) ?hr ?_; (case hd => rfl); (case hg => rfl); (case hr => first | (go_simp; done) | (go_simp; rfl)); intro gb691 hg w75 hbox hb; have BK691 := Aside0.mk (hbox); have GW691 := Aside0.mk ((by rw [hg]; exact (below_size (by repeat first | (with_reducible exact HB.out) | refine bl1 ?_ | (with_reducible refine bset ?_ ‹_›) | exact HB.out)) : w.heap.size ≤ gb691)); have GE691 := Aside0.mk ((by rw [hg]; exact (below_size (by repeat first | (with_reducible exact HB.out) | refine bl1 ?_ | (with_reducible refine bset ?_ ‹_›) | exact HB.out)) : w.heap.size ≤ gb691)); have NB690_691 := nlk hg BK690; have NB691_690 := ngk hg BK690; replace BK690 := kb BK690 hb; replace HB := Aside0.mk (below_step (by repeat first | (with_reducible exact HB.out) | refine bl1 ?_ | (with_reducible refine bset ?_ ‹_›) | exact HB.out) hb); clear hb hbox hg; have hnb76 := NB690_691.out; have hnc76 := NB691_690.out; obtain ⟨hcz77_0, hcz77_1, hcz77_2, hcz77_3, hcz77_4, hcz77_5, hcz77_6⟩ := bc7 BK690.out; obtain ⟨hfz77_0, hfz77_1, hfz77_2, hfz77_3, hfz77_4, hfz77_5, hfz77_6⟩ := bf7 BK690.out) | ((with_reducible refine gate_callee (f := 28) rfl ?_); refine goesL_ (some 6) rfl rfl Tryd.func28 (by kernel_rfl) rfl #[.agg #[.int .i64 a0_0, .int .i64 a0_1, .int .i64 a0_2, .int .i64 a0_3, .int .i64 a0_4, .bool a0_5, .bool a0_6]] rfl (by (try simp only [mp]); first | done | rfl | (simp only [ld]; rfl)) ?_; (with_reducible refine (serinetteref03_Clean.calls k a0_0 a0_1 a0_2 a0_3 a0_4 a0_5 a0_6 t692 t693 t694 t695 t696 t697 t698 _ A3.out).mono ?_); rintro e w78 ⟨rfl, hb⟩; refine ⟨_, rfl, ?_⟩; replace BK690 := kb BK690 hb; replace BK691 := kb BK691 hb; replace HB := Aside0.mk (below_step (by repeat first | (with_reducible exact HB.out) | refine bl1 ?_ | (with_reducible refine bset ?_ ‹_›) | exact HB.out) hb); (try clear hb); (try clear hb2); (try clear hk); (try clear hi); obtain ⟨hcz79_0, hcz79_1, hcz79_2, hcz79_3, hcz79_4, hcz79_5, hcz79_6⟩ := bc7 BK690.out; obtain ⟨hfz79_0, hfz79_1, hfz79_2, hfz79_3, hfz79_4, hfz79_5, hfz79_6⟩ := bf7 BK690.out; obtain ⟨hcz80_0, hcz80_1⟩ := bc2 BK691.out; obtain ⟨hfz80_0, hfz80_1⟩ := bf2 BK691.out) | ((with_reducible refine gate_callee (f := 19) rfl ?_); refine goesL_ (some 8) rfl rfl Tryd.func19 (by kernel_rfl) rfl #[.agg #[.int .i64 a1_0, .int .i64 a1_1]] rfl (by (try simp only [mp]); first | done | rfl | (simp only [ld]; rfl)) ?_; (with_reducible refine (serinetteref01_Is.calls k a1_0 a1_1 false _ A4.out).mono ?_); rintro e w81 ⟨rfl, hb⟩; refine ⟨_, rfl, ?_⟩; replace BK690 := Aside0.mk (blk_below (g := gb690) (o := .cells #[.int .i64 t692, .int .i64 t693, .int .i64 t694, .int .i64 t695, .int .i64 t696, .bool t697, .bool t698] 25 (0, 0)) (by exact rq BK690.out (by rfl)) hb); replace BK691 := Aside0.mk (blk_below (g := gb691) (o := .cells #[.int .i64 a1_0, .int .i64 a1_1] 23 (0, 0)) (by refine bk ?_; refine blk_far ?_ NB691_690.out _; refine bk ?_; refine blk_far ?_ NB691_690.out _; refine bk ?_; refine blk_far ?_ NB691_690.out _; refine bk ?_; refine blk_far ?_ NB691_690.out _; refine bk ?_; refine blk_far ?_ NB691_690.out _; refine bk ?_; refine blk_far ?_ NB691_690.out _; refine bk ?_; refine blk_far ?_ NB691_690.out _; refine bk ?_; exact BK691.out) hb); replace HB := Aside0.mk (below_step (by repeat first | (with_reducible exact HB.out) | refine bl1 ?_ | (with_reducible refine bset ?_ ‹_›) | exact HB.out) hb); (try clear hb); (try clear hb2); (try clear hk); (try clear hi); obtain ⟨hcz82_0, hcz82_1, hcz82_2, hcz82_3, hcz82_4, hcz82_5, hcz82_6⟩ := bc7 BK690.out; obtain ⟨hfz82_0, hfz82_1, hfz82_2, hfz82_3, hfz82_4, hfz82_5, hfz82_6⟩ := bf7 BK690.out)); go_ret; exact ⟨by first | rfl | (simp [errW_none, errW_some] <;> rfl) | (simp [*, errW_none, errW_some] <;> rfl), by repeat first | (with_reducible exact HB.out) | (with_reducible refine bset ?_ ‹_›) | refine bl1 ?_ | exact HB.out⟩
mutual
def span_Meet.j0 : Nat → Bool → Int → Int → Int → Int → Int → Bool → Bool → Int → Int → Int → Int → Int → Bool → Bool → Option (Int × Int × Int × Int × Int × Bool × Bool)
 | 0, _, _, _, _, _, _, _, _, _, _, _, _, _, _, _ => none
 | k + 1, x5, x707000, x707001, x707002, x707003, x707004, x707005, x707006, x708000, x708001, x708002, x708003, x708004, x708005, x708006 => if x707006 = true then (span_Meet.j1 k x5 true x707000 x707001 x707002 x707003 x707004 x707005 x707006 x708000 x708001 x708002 x708003 x708004 x708005 x708006) else (span_Meet.j1 k x5 x708006 x707000 x707001 x707002 x707003 x707004 x707005 x707006 x708000 x708001 x708002 x708003 x708004 x708005 x708006)
def span_Meet.j1 : Nat → Bool → Bool → Int → Int → Int → Int → Int → Bool → Bool → Int → Int → Int → Int → Int → Bool → Bool → Option (Int × Int × Int × Int × Int × Bool × Bool)
 | 0, _, _, _, _, _, _, _, _, _, _, _, _, _, _, _, _ => none
 | k + 1, x5, x22, x707000, x707001, x707002, x707003, x707004, x707005, x707006, x708000, x708001, x708002, x708003, x708004, x708005, x708006 => if x22 = true then ((span_empty.f x5).bind fun bt723 => (some (bt723.1, bt723.2.1, bt723.2.2.1, bt723.2.2.2.1, bt723.2.2.2.2.1, bt723.2.2.2.2.2.1, bt723.2.2.2.2.2.2))) else ((span_divisor.f k x707004 x708004).bind fun t730 => ((ratio_Is.f k x708000 x708001).bind fun t732 => (if t732 = true then ((ratio_Is.f k x707000 x707001).bind fun t733 => (if t733 = true then ((ratio_Cmp.f k x708000 x708001 x707000 x707001).bind fun t734 => (span_Meet.j2 k x5 (decide (t734 > 0)) x708000 x708001 x708002 x708003 x708004 x708005 x708006 x707000 x707001 x707002 x707003 t730 x5 false)) else (span_Meet.j2 k x5 true x708000 x708001 x708002 x708003 x708004 x708005 x708006 x707000 x707001 x707002 x707003 t730 x5 false))) else (span_Meet.j2 k x5 false x708000 x708001 x708002 x708003 x708004 x708005 x708006 x707000 x707001 x707002 x707003 t730 x5 false))))
def span_Meet.j2 : Nat → Bool → Bool → Int → Int → Int → Int → Int → Bool → Bool → Int → Int → Int → Int → Int → Bool → Bool → Option (Int × Int × Int × Int × Int × Bool × Bool)
 | 0, _, _, _, _, _, _, _, _, _, _, _, _, _, _, _, _ => none
 | k + 1, x5, x52, x708000, x708001, x708002, x708003, x708004, x708005, x708006, x732000, x732001, x732002, x732003, x732004, x732005, x732006 => if x52 = true then (span_Meet.j3 k x5 x708000 x708001 x708002 x708003 x708004 x708005 x708006 x708000 x708001 x732002 x732003 x732004 x732005 x732006) else (span_Meet.j3 k x5 x708000 x708001 x708002 x708003 x708004 x708005 x708006 x732000 x732001 x732002 x732003 x732004 x732005 x732006)
def span_Meet.j3 : Nat → Bool → Int → Int → Int → Int → Int → Bool → Bool → Int → Int → Int → Int → Int → Bool → Bool → Option (Int × Int × Int × Int × Int × Bool × Bool)
 | 0, _, _, _, _, _, _, _, _, _, _, _, _, _, _, _ => none
 | k + 1, x5, x708000, x708001, x708002, x708003, x708004, x708005, x708006, x732000, x732001, x732002, x732003, x732004, x732005, x732006 => (ratio_Is.f k x708002 x708003).bind fun t735 => (if t735 = true then ((ratio_Is.f k x732002 x732003).bind fun t736 => (if t736 = true then ((ratio_Cmp.f k x708002 x708003 x732002 x732003).bind fun t737 => (span_Meet.j4 k x5 (decide (t737 < 0)) x708000 x708001 x708002 x708003 x708004 x708005 x708006 x732000 x732001 x732002 x732003 x732004 x732005 x732006)) else (span_Meet.j4 k x5 true x708000 x708001 x708002 x708003 x708004 x708005 x708006 x732000 x732001 x732002 x732003 x732004 x732005 x732006))) else (span_Meet.j4 k x5 false x708000 x708001 x708002 x708003 x708004 x708005 x708006 x732000 x732001 x732002 x732003 x732004 x732005 x732006))
def span_Meet.j4 : Nat → Bool → Bool → Int → Int → Int → Int → Int → Bool → Bool → Int → Int → Int → Int → Int → Bool → Bool → Option (Int × Int × Int × Int × Int × Bool × Bool)
 | 0, _, _, _, _, _, _, _, _, _, _, _, _, _, _, _, _ => none
 | k + 1, x5, x72, x708000, x708001, x708002, x708003, x708004, x708005, x708006, x732000, x732001, x732002, x732003, x732004, x732005, x732006 => if x72 = true then (span_Meet.j5 k x5 x732000 x732001 x708002 x708003 x732004 x732005 x732006) else (span_Meet.j5 k x5 x732000 x732001 x732002 x732003 x732004 x732005 x732006)
def span_Meet.j5 : Nat → Bool → Int → Int → Int → Int → Int → Bool → Bool → Option (Int × Int × Int × Int × Int × Bool × Bool)
 | 0, _, _, _, _, _, _, _, _ => none
 | k + 1, x5, x732000, x732001, x732002, x732003, x732004, x732005, x732006 => (ratio_Is.f k x732000 x732001).bind fun t738 => (if t738 = true then ((ratio_Is.f k x732002 x732003).bind fun t739 => (if t739 = true then ((ratio_Cmp.f k x732000 x732001 x732002 x732003).bind fun t740 => (if t740 > 0 then ((span_empty.f x5).bind fun bt741 => (some (bt741.1, bt741.2.1, bt741.2.2.1, bt741.2.2.2.1, bt741.2.2.2.2.1, bt741.2.2.2.2.2.1, bt741.2.2.2.2.2.2))) else (some (x732000, x732001, x732002, x732003, x732004, x732005, x732006)))) else (some (x732000, x732001, x732002, x732003, x732004, x732005, x732006)))) else (some (x732000, x732001, x732002, x732003, x732004, x732005, x732006)))
end
def span_Meet.f (k : Nat) (a0_0 : Int) (a0_1 : Int) (a0_2 : Int) (a0_3 : Int) (a0_4 : Int) (a0_5 : Bool) (a0_6 : Bool) (a1_0 : Int) (a1_1 : Int) (a1_2 : Int) (a1_3 : Int) (a1_4 : Int) (a1_5 : Bool) (a1_6 : Bool) : Option (Int × Int × Int × Int × Int × Bool × Bool) := (span_valid.f k a0_0 a0_1 a0_2 a0_3 a0_4 a0_5 a0_6).bind fun bt709 => ((span_valid.f k a1_0 a1_1 a1_2 a1_3 a1_4 a1_5 a1_6).bind fun bt716 => (if bt709.2.2.2.2.2.1 = true then (span_Meet.j0 k bt716.2.2.2.2.2.1 bt709.1 bt709.2.1 bt709.2.2.1 bt709.2.2.2.1 bt709.2.2.2.2.1 bt709.2.2.2.2.2.1 bt709.2.2.2.2.2.2 bt716.1 bt716.2.1 bt716.2.2.1 bt716.2.2.2.1 bt716.2.2.2.2.1 bt716.2.2.2.2.2.1 bt716.2.2.2.2.2.2) else (span_Meet.j0 k false bt709.1 bt709.2.1 bt709.2.2.1 bt709.2.2.2.1 bt709.2.2.2.2.1 bt709.2.2.2.2.2.1 bt709.2.2.2.2.2.2 bt716.1 bt716.2.1 bt716.2.2.1 bt716.2.2.2.1 bt716.2.2.2.2.1 bt716.2.2.2.2.2.1 bt716.2.2.2.2.2.2)))
theorem span_Meet.mono_l : ∀ k, (∀ y0 y1 y2 y3 y4 y5 y6 y7 y8 y9 y10 y11 y12 y13 y14, LeO (span_Meet.j0 k y0 y1 y2 y3 y4 y5 y6 y7 y8 y9 y10 y11 y12 y13 y14) (span_Meet.j0 (k + 1) y0 y1 y2 y3 y4 y5 y6 y7 y8 y9 y10 y11 y12 y13 y14)) ∧ (∀ y0 y1 y2 y3 y4 y5 y6 y7 y8 y9 y10 y11 y12 y13 y14 y15, LeO (span_Meet.j1 k y0 y1 y2 y3 y4 y5 y6 y7 y8 y9 y10 y11 y12 y13 y14 y15) (span_Meet.j1 (k + 1) y0 y1 y2 y3 y4 y5 y6 y7 y8 y9 y10 y11 y12 y13 y14 y15)) ∧ (∀ y0 y1 y2 y3 y4 y5 y6 y7 y8 y9 y10 y11 y12 y13 y14 y15, LeO (span_Meet.j2 k y0 y1 y2 y3 y4 y5 y6 y7 y8 y9 y10 y11 y12 y13 y14 y15) (span_Meet.j2 (k + 1) y0 y1 y2 y3 y4 y5 y6 y7 y8 y9 y10 y11 y12 y13 y14 y15)) ∧ (∀ y0 y1 y2 y3 y4 y5 y6 y7 y8 y9 y10 y11 y12 y13 y14, LeO (span_Meet.j3 k y0 y1 y2 y3 y4 y5 y6 y7 y8 y9 y10 y11 y12 y13 y14) (span_Meet.j3 (k + 1) y0 y1 y2 y3 y4 y5 y6 y7 y8 y9 y10 y11 y12 y13 y14)) ∧ (∀ y0 y1 y2 y3 y4 y5 y6 y7 y8 y9 y10 y11 y12 y13 y14 y15, LeO (span_Meet.j4 k y0 y1 y2 y3 y4 y5 y6 y7 y8 y9 y10 y11 y12 y13 y14 y15) (span_Meet.j4 (k + 1) y0 y1 y2 y3 y4 y5 y6 y7 y8 y9 y10 y11 y12 y13 y14 y15)) ∧ (∀ y0 y1 y2 y3 y4 y5 y6 y7, LeO (span_Meet.j5 k y0 y1 y2 y3 y4 y5 y6 y7) (span_Meet.j5 (k + 1) y0 y1 y2 y3 y4 y5 y6 y7))
 | 0 => ⟨fun _ _ _ _ _ _ _ _ _ _ _ _ _ _ _ r h => by simp [span_Meet.j0] at h, fun _ _ _ _ _ _ _ _ _ _ _ _ _ _ _ _ r h => by simp [span_Meet.j1] at h, fun _ _ _ _ _ _ _ _ _ _ _ _ _ _ _ _ r h => by simp [span_Meet.j2] at h, fun _ _ _ _ _ _ _ _ _ _ _ _ _ _ _ r h => by simp [span_Meet.j3] at h, fun _ _ _ _ _ _ _ _ _ _ _ _ _ _ _ _ r h => by simp [span_Meet.j4] at h, fun _ _ _ _ _ _ _ _ r h => by simp [span_Meet.j5] at h⟩
 | k + 1 => by
  obtain ⟨ih0, ih1, ih2, ih3, ih4, ih5⟩ := span_Meet.mono_l k
  refine ⟨?_, ?_, ?_, ?_, ?_, ?_⟩
  ·
   intro y0 y1 y2 y3 y4 y5 y6 y7 y8 y9 y10 y11 y12 y13 y14
   unfold span_Meet.j0
   repeat' first
   | (with_reducible exact ih0 _ _ _ _ _ _ _ _ _ _ _ _ _ _ _)
   | (with_reducible exact ih1 _ _ _ _ _ _ _ _ _ _ _ _ _ _ _ _)
   | (with_reducible exact ih2 _ _ _ _ _ _ _ _ _ _ _ _ _ _ _ _)
   | (with_reducible exact ih3 _ _ _ _ _ _ _ _ _ _ _ _ _ _ _)
   | (with_reducible exact ih4 _ _ _ _ _ _ _ _ _ _ _ _ _ _ _ _)
   | (with_reducible exact ih5 _ _ _ _ _ _ _ _)
   | (with_reducible exact ratio_Cmp.mono _ _ _ _ _)
   | (with_reducible exact ratio_Is.mono _ _ _)
   | (with_reducible exact span_divisor.mono _ _ _)
   | (with_reducible exact span_valid.mono _ _ _ _ _ _ _ _)
   | (with_reducible exact LeO.refl _)
   | (with_reducible exact LeO.none _)
   | (with_reducible refine LeO.ite ?_ ?_)
   | (with_reducible refine LeO.bind ?_ (fun _ => ?_))
   | exact ih0 _ _ _ _ _ _ _ _ _ _ _ _ _ _ _
   | exact ih1 _ _ _ _ _ _ _ _ _ _ _ _ _ _ _ _
   | exact ih2 _ _ _ _ _ _ _ _ _ _ _ _ _ _ _ _
   | exact ih3 _ _ _ _ _ _ _ _ _ _ _ _ _ _ _
   | exact ih4 _ _ _ _ _ _ _ _ _ _ _ _ _ _ _ _
   | exact ih5 _ _ _ _ _ _ _ _
   | exact ratio_Cmp.mono _ _ _ _ _
   | exact ratio_Is.mono _ _ _
   | exact span_divisor.mono _ _ _
   | exact span_valid.mono _ _ _ _ _ _ _ _
   | exact LeO.none _
   | refine LeO.ite ?_ ?_
   | refine LeO.bind ?_ (fun _ => ?_)
  ·
   intro y0 y1 y2 y3 y4 y5 y6 y7 y8 y9 y10 y11 y12 y13 y14 y15
   unfold span_Meet.j1
   repeat' first
   | (with_reducible exact ih0 _ _ _ _ _ _ _ _ _ _ _ _ _ _ _)
   | (with_reducible exact ih1 _ _ _ _ _ _ _ _ _ _ _ _ _ _ _ _)
   | (with_reducible exact ih2 _ _ _ _ _ _ _ _ _ _ _ _ _ _ _ _)
   | (with_reducible exact ih3 _ _ _ _ _ _ _ _ _ _ _ _ _ _ _)
   | (with_reducible exact ih4 _ _ _ _ _ _ _ _ _ _ _ _ _ _ _ _)
   | (with_reducible exact ih5 _ _ _ _ _ _ _ _)
   | (with_reducible exact ratio_Cmp.mono _ _ _ _ _)
   | (with_reducible exact ratio_Is.mono _ _ _)
   | (with_reducible exact span_divisor.mono _ _ _)
   | (with_reducible exact span_valid.mono _ _ _ _ _ _ _ _)
   | (with_reducible exact LeO.refl _)
   | (with_reducible exact LeO.none _)
   | (with_reducible refine LeO.ite ?_ ?_)
   | (with_reducible refine LeO.bind ?_ (fun _ => ?_))
   | exact ih0 _ _ _ _ _ _ _ _ _ _ _ _ _ _ _
   | exact ih1 _ _ _ _ _ _ _ _ _ _ _ _ _ _ _ _
   | exact ih2 _ _ _ _ _ _ _ _ _ _ _ _ _ _ _ _
   | exact ih3 _ _ _ _ _ _ _ _ _ _ _ _ _ _ _
   | exact ih4 _ _ _ _ _ _ _ _ _ _ _ _ _ _ _ _
   | exact ih5 _ _ _ _ _ _ _ _
   | exact ratio_Cmp.mono _ _ _ _ _
   | exact ratio_Is.mono _ _ _
   | exact span_divisor.mono _ _ _
   | exact span_valid.mono _ _ _ _ _ _ _ _
   | exact LeO.none _
   | refine LeO.ite ?_ ?_
   | refine LeO.bind ?_ (fun _ => ?_)
  ·
   intro y0 y1 y2 y3 y4 y5 y6 y7 y8 y9 y10 y11 y12 y13 y14 y15
   unfold span_Meet.j2
   repeat' first
   | (with_reducible exact ih0 _ _ _ _ _ _ _ _ _ _ _ _ _ _ _)
   | (with_reducible exact ih1 _ _ _ _ _ _ _ _ _ _ _ _ _ _ _ _)
   | (with_reducible exact ih2 _ _ _ _ _ _ _ _ _ _ _ _ _ _ _ _)
   | (with_reducible exact ih3 _ _ _ _ _ _ _ _ _ _ _ _ _ _ _)
   | (with_reducible exact ih4 _ _ _ _ _ _ _ _ _ _ _ _ _ _ _ _)
   | (with_reducible exact ih5 _ _ _ _ _ _ _ _)
   | (with_reducible exact ratio_Cmp.mono _ _ _ _ _)
   | (with_reducible exact ratio_Is.mono _ _ _)
   | (with_reducible exact span_divisor.mono _ _ _)
   | (with_reducible exact span_valid.mono _ _ _ _ _ _ _ _)
   | (with_reducible exact LeO.refl _)
   | (with_reducible exact LeO.none _)
   | (with_reducible refine LeO.ite ?_ ?_)
   | (with_reducible refine LeO.bind ?_ (fun _ => ?_))
   | exact ih0 _ _ _ _ _ _ _ _ _ _ _ _ _ _ _
   | exact ih1 _ _ _ _ _ _ _ _ _ _ _ _ _ _ _ _
   | exact ih2 _ _ _ _ _ _ _ _ _ _ _ _ _ _ _ _
   | exact ih3 _ _ _ _ _ _ _ _ _ _ _ _ _ _ _
   | exact ih4 _ _ _ _ _ _ _ _ _ _ _ _ _ _ _ _
   | exact ih5 _ _ _ _ _ _ _ _
   | exact ratio_Cmp.mono _ _ _ _ _
   | exact ratio_Is.mono _ _ _
   | exact span_divisor.mono _ _ _
   | exact span_valid.mono _ _ _ _ _ _ _ _
   | exact LeO.none _
   | refine LeO.ite ?_ ?_
   | refine LeO.bind ?_ (fun _ => ?_)
  ·
   intro y0 y1 y2 y3 y4 y5 y6 y7 y8 y9 y10 y11 y12 y13 y14
   unfold span_Meet.j3
   repeat' first
   | (with_reducible exact ih0 _ _ _ _ _ _ _ _ _ _ _ _ _ _ _)
   | (with_reducible exact ih1 _ _ _ _ _ _ _ _ _ _ _ _ _ _ _ _)
   | (with_reducible exact ih2 _ _ _ _ _ _ _ _ _ _ _ _ _ _ _ _)
   | (with_reducible exact ih3 _ _ _ _ _ _ _ _ _ _ _ _ _ _ _)
   | (with_reducible exact ih4 _ _ _ _ _ _ _ _ _ _ _ _ _ _ _ _)
   | (with_reducible exact ih5 _ _ _ _ _ _ _ _)
   | (with_reducible exact ratio_Cmp.mono _ _ _ _ _)
   | (with_reducible exact ratio_Is.mono _ _ _)
   | (with_reducible exact span_divisor.mono _ _ _)
   | (with_reducible exact span_valid.mono _ _ _ _ _ _ _ _)
   | (with_reducible exact LeO.refl _)
   | (with_reducible exact LeO.none _)
   | (with_reducible refine LeO.ite ?_ ?_)
   | (with_reducible refine LeO.bind ?_ (fun _ => ?_))
   | exact ih0 _ _ _ _ _ _ _ _ _ _ _ _ _ _ _
   | exact ih1 _ _ _ _ _ _ _ _ _ _ _ _ _ _ _ _
   | exact ih2 _ _ _ _ _ _ _ _ _ _ _ _ _ _ _ _
   | exact ih3 _ _ _ _ _ _ _ _ _ _ _ _ _ _ _
   | exact ih4 _ _ _ _ _ _ _ _ _ _ _ _ _ _ _ _
   | exact ih5 _ _ _ _ _ _ _ _
   | exact ratio_Cmp.mono _ _ _ _ _
   | exact ratio_Is.mono _ _ _
   | exact span_divisor.mono _ _ _
   | exact span_valid.mono _ _ _ _ _ _ _ _
   | exact LeO.none _
   | refine LeO.ite ?_ ?_
   | refine LeO.bind ?_ (fun _ => ?_)
  ·
   intro y0 y1 y2 y3 y4 y5 y6 y7 y8 y9 y10 y11 y12 y13 y14 y15
   unfold span_Meet.j4
   repeat' first
   | (with_reducible exact ih0 _ _ _ _ _ _ _ _ _ _ _ _ _ _ _)
   | (with_reducible exact ih1 _ _ _ _ _ _ _ _ _ _ _ _ _ _ _ _)
   | (with_reducible exact ih2 _ _ _ _ _ _ _ _ _ _ _ _ _ _ _ _)
   | (with_reducible exact ih3 _ _ _ _ _ _ _ _ _ _ _ _ _ _ _)
   | (with_reducible exact ih4 _ _ _ _ _ _ _ _ _ _ _ _ _ _ _ _)
   | (with_reducible exact ih5 _ _ _ _ _ _ _ _)
   | (with_reducible exact ratio_Cmp.mono _ _ _ _ _)
   | (with_reducible exact ratio_Is.mono _ _ _)
   | (with_reducible exact span_divisor.mono _ _ _)
   | (with_reducible exact span_valid.mono _ _ _ _ _ _ _ _)
   | (with_reducible exact LeO.refl _)
   | (with_reducible exact LeO.none _)
   | (with_reducible refine LeO.ite ?_ ?_)
   | (with_reducible refine LeO.bind ?_ (fun _ => ?_))
   | exact ih0 _ _ _ _ _ _ _ _ _ _ _ _ _ _ _
   | exact ih1 _ _ _ _ _ _ _ _ _ _ _ _ _ _ _ _
   | exact ih2 _ _ _ _ _ _ _ _ _ _ _ _ _ _ _ _
   | exact ih3 _ _ _ _ _ _ _ _ _ _ _ _ _ _ _
   | exact ih4 _ _ _ _ _ _ _ _ _ _ _ _ _ _ _ _
   | exact ih5 _ _ _ _ _ _ _ _
   | exact ratio_Cmp.mono _ _ _ _ _
   | exact ratio_Is.mono _ _ _
   | exact span_divisor.mono _ _ _
   | exact span_valid.mono _ _ _ _ _ _ _ _
   | exact LeO.none _
   | refine LeO.ite ?_ ?_
   | refine LeO.bind ?_ (fun _ => ?_)
  ·
   intro y0 y1 y2 y3 y4 y5 y6 y7
   unfold span_Meet.j5
   repeat' first
   | (with_reducible exact ih0 _ _ _ _ _ _ _ _ _ _ _ _ _ _ _)
   | (with_reducible exact ih1 _ _ _ _ _ _ _ _ _ _ _ _ _ _ _ _)
   | (with_reducible exact ih2 _ _ _ _ _ _ _ _ _ _ _ _ _ _ _ _)
   | (with_reducible exact ih3 _ _ _ _ _ _ _ _ _ _ _ _ _ _ _)
   | (with_reducible exact ih4 _ _ _ _ _ _ _ _ _ _ _ _ _ _ _ _)
   | (with_reducible exact ih5 _ _ _ _ _ _ _ _)
   | (with_reducible exact ratio_Cmp.mono _ _ _ _ _)
   | (with_reducible exact ratio_Is.mono _ _ _)
   | (with_reducible exact span_divisor.mono _ _ _)
   | (with_reducible exact span_valid.mono _ _ _ _ _ _ _ _)
   | (with_reducible exact LeO.refl _)
   | (with_reducible exact LeO.none _)
   | (with_reducible refine LeO.ite ?_ ?_)
   | (with_reducible refine LeO.bind ?_ (fun _ => ?_))
   | exact ih0 _ _ _ _ _ _ _ _ _ _ _ _ _ _ _
   | exact ih1 _ _ _ _ _ _ _ _ _ _ _ _ _ _ _ _
   | exact ih2 _ _ _ _ _ _ _ _ _ _ _ _ _ _ _ _
   | exact ih3 _ _ _ _ _ _ _ _ _ _ _ _ _ _ _
   | exact ih4 _ _ _ _ _ _ _ _ _ _ _ _ _ _ _ _
   | exact ih5 _ _ _ _ _ _ _ _
   | exact ratio_Cmp.mono _ _ _ _ _
   | exact ratio_Is.mono _ _ _
   | exact span_divisor.mono _ _ _
   | exact span_valid.mono _ _ _ _ _ _ _ _
   | exact LeO.none _
   | refine LeO.ite ?_ ?_
   | refine LeO.bind ?_ (fun _ => ?_)
theorem span_Meet.mono : ∀ a0 a1 a2 a3 a4 a5 a6 a7 a8 a9 a10 a11 a12 a13 k, LeO (span_Meet.f k a0 a1 a2 a3 a4 a5 a6 a7 a8 a9 a10 a11 a12 a13) (span_Meet.f (k + 1) a0 a1 a2 a3 a4 a5 a6 a7 a8 a9 a10 a11 a12 a13) := by
 intro a0 a1 a2 a3 a4 a5 a6 a7 a8 a9 a10 a11 a12 a13 k
 obtain ⟨ih0, ih1, ih2, ih3, ih4, ih5⟩ := span_Meet.mono_l k
 unfold span_Meet.f
 repeat' first
   | (with_reducible exact ih0 _ _ _ _ _ _ _ _ _ _ _ _ _ _ _)
   | (with_reducible exact ih1 _ _ _ _ _ _ _ _ _ _ _ _ _ _ _ _)
   | (with_reducible exact ih2 _ _ _ _ _ _ _ _ _ _ _ _ _ _ _ _)
   | (with_reducible exact ih3 _ _ _ _ _ _ _ _ _ _ _ _ _ _ _)
   | (with_reducible exact ih4 _ _ _ _ _ _ _ _ _ _ _ _ _ _ _ _)
   | (with_reducible exact ih5 _ _ _ _ _ _ _ _)
   | (with_reducible exact ratio_Cmp.mono _ _ _ _ _)
   | (with_reducible exact ratio_Is.mono _ _ _)
   | (with_reducible exact span_divisor.mono _ _ _)
   | (with_reducible exact span_valid.mono _ _ _ _ _ _ _ _)
   | (with_reducible exact LeO.refl _)
   | (with_reducible exact LeO.none _)
   | (with_reducible refine LeO.ite ?_ ?_)
   | (with_reducible refine LeO.bind ?_ (fun _ => ?_))
   | exact ih0 _ _ _ _ _ _ _ _ _ _ _ _ _ _ _
   | exact ih1 _ _ _ _ _ _ _ _ _ _ _ _ _ _ _ _
   | exact ih2 _ _ _ _ _ _ _ _ _ _ _ _ _ _ _ _
   | exact ih3 _ _ _ _ _ _ _ _ _ _ _ _ _ _ _
   | exact ih4 _ _ _ _ _ _ _ _ _ _ _ _ _ _ _ _
   | exact ih5 _ _ _ _ _ _ _ _
   | exact ratio_Cmp.mono _ _ _ _ _
   | exact ratio_Is.mono _ _ _
   | exact span_divisor.mono _ _ _
   | exact span_valid.mono _ _ _ _ _ _ _ _
   | exact LeO.none _
   | refine LeO.ite ?_ ?_
   | refine LeO.bind ?_ (fun _ => ?_)
def span_Meet.T5 : Bool × List (List Nat × List Nat) := (true, [([], []), ([0], [0]), ([], []), ([2], [2]), ([], []), ([4], [4]), ([], []), ([6], [6]), ([5, 7], [5, 7]), ([], []), ([1, 3, 8, 9], [1, 3, 8, 9]), ([], []), ([11, 10, 8, 0, 1, 2, 3, 4, 5, 6, 7, 8, 9, 10, 11], [10, 11])])
def span_Meet.B5 : List Nat := [0, 1, 0, 4, 0, 16, 0, 64, 240, 0, 1023, 0, 4095]
theorem span_Meet.tab5 : rtab .any (opsOf Tryd.f12 5) = span_Meet.T5 := by kernel_rfl
theorem span_Meet.bits5 : waitsOk span_Meet.T5.2 span_Meet.B5 = true := by kernel_rfl
end Go.Proofs.YtlibjgmnookakaaDoor.SSpanNests
