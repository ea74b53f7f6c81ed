/- Turned by a program of this session out of what the print prints for the functions that NumberSays reaches: the same proofs in shorter words. -/
import Derived.Test.YtgecbfemlpmpeaaSNumberSays9
namespace Go.Proofs.Ytgecbfemlpmpeaa.SNumberSays
open Go.RowKit Go.Proofs.Ytgecbfemlpmpeaa.Wd.PrintWords Go.Proofs.Ytgecbfemlpmpeaa.Wd.PrintLast Go.Proofs.Ytgecbfemlpmpeaa.Wd.PrintMore
set_option linter.unusedVariables false
set_option linter.unusedSimpArgs false
attribute [local go_sem] max2_int min2_int max_two min_two max_three min_three max_four min_four   -- for this text's walks alone
attribute [local go_sem high] eqA24
set_option maxHeartbeats 8000000 in
set_option maxRecDepth 100000 in
theorem serinettelaw01_NumberSays.calls (k : Nat) (a0_0 : Int) (a0_1 : Int) (a1_0 : Int) (a1_1 : Int) (r : Bool) (hr : Aside0 (r = true)) (w : World) (h : serinettelaw01_NumberSays.f k a0_0 a0_1 a1_0 a1_1 = some r) :
  Calls Try.prog 8 #[.agg #[.int .i64 a0_0, .int .i64 a0_1], .agg #[.int .i64 a1_0, .int .i64 a1_1]] w fun e w' => e = .returned (.bool r) ∧ Below w.heap.size w w' := by
 have hu24 := Try.underlying24
 have HB := Aside0.mk (Below.refl w.heap.size w)
 have H : ((ratio_Is.f k a0_0 a0_1).bind fun t345 => ((serinetteref01_Is.f k a0_0 a0_1).bind fun t346 => (if (t345 != t346) = true then (serinettelaw01_NumberSays.j0 k true a0_0 a0_1 a1_0 a1_1) else ((ratio_Valid.f k a0_0 a0_1).bind fun t347 => ((serinetteref01_Valid.f k a0_0 a0_1).bind fun t348 => (if (t347 != t348) = true then (serinettelaw01_NumberSays.j0 k true a0_0 a0_1 a1_0 a1_1) else ((ratio_Cmp.f k a0_0 a0_1 a1_0 a1_1).bind fun t349 => ((serinetteref01_Cmp.f k a0_0 a0_1 a1_0 a1_1).bind fun t350 => (serinettelaw01_NumberSays.j0 k (t349 != t350) a0_0 a0_1 a1_0 a1_1))))))))) = some r := h
 clear h
 have HC3 := Aside0.mk H
 clear H
 go_enter Try.func8, Try.ntmps8
 go_upto_region 1 with (first | ((with_reducible refine gate_dst (N := 2) rfl ?_); refine box_event ?hg (N := 2) ?hd (cs := #[.int .i64 a0_0, .int .i64 a0_1]) (t := 24) ?hr ?_; (case hd => rfl); (case hg => rfl); (case hr => first | (go_simp; done) | (go_simp; rfl)); intro gb343 hg w4 hbox hb; have BK343 := Aside0.mk (hbox); have GW343 := hz_ hg HB; have GE343 := hz_ hg HB; replace HB := hs HB hb; clear hb hbox hg) | ((with_reducible refine gate_dst (N := 3) rfl ?_); refine box_event ?hg (N := 3) ?hd (cs := #[.int .i64 a1_0, .int .i64 a1_1]) (t := 24) ?hr ?_; (case hd => rfl); (case hg => rfl); (case hr => first | (go_simp; done) | (go_simp; rfl)); intro gb344 hg w5 hbox hb; have BK344 := Aside0.mk (hbox); have GW344 := bz' HB hg (by repeat first | (with_reducible exact HB.out) | refine bl1 ?_ | (with_reducible refine bset ?_ ‹_›) | exact HB.out); have GE344 := bz' HB hg (by repeat first | (with_reducible exact HB.out) | refine bl1 ?_ | (with_reducible refine bset ?_ ‹_›) | exact HB.out); have NB343_344 := nlk hg BK343; have NB344_343 := ngk hg BK343; replace BK343 := kb BK343 hb; replace HB := hs' HB (by repeat first | (with_reducible exact HB.out) | refine bl1 ?_ | (with_reducible refine bset ?_ ‹_›) | exact HB.out) hb; clear hb hbox hg))
 (try simp only [Act.put, List.setIfInBounds_toArray, List.set_cons_zero, List.set_cons_succ])
 go_cut [25] (fun v25 wc => ∃ (kq : Nat) (x25_2 : Bool), v25 = .bool x25_2 ∧ Aside0 (serinettelaw01_NumberSays.j0 kq x25_2 a0_0 a0_1 a1_0 a1_1 = some r) ∧ Aside0 (kq ≤ k) ∧ Aside0 (wc.heap[gb343]? = some (.cells #[.int .i64 a0_0, .int .i64 a0_1] 24 (0, 0))) ∧ Aside0 (wc.heap[gb344]? = some (.cells #[.int .i64 a1_0, .int .i64 a1_1] 24 (0, 0))) ∧ Aside0 (Below w.heap.size w wc))
 case first =>
  have H := HC3.out
  clear HC3
  replace H := Option.bind_eq_some_iff.mp H
  obtain ⟨t345, A60, H⟩ := H
  (try dsimp only at H)
  have A6 := Aside0.mk A60
  clear A60
  replace H := Option.bind_eq_some_iff.mp H
  obtain ⟨t346, A70, H⟩ := H
  (try dsimp only at H)
  have A7 := Aside0.mk A70
  clear A70
  by_cases c8 : (t345 != t346) = true
  ·
   rw [if_pos c8] at H
   have c8b0 : (t345 != t346) = true := c8
   (try (have c8b1 : decide (t345 = t346) = false := by simpa using c8))
   (try (have c8b2 : (t345 == t346) = false := by simpa using c8))
   (try (have c8b3 : ¬ (t345 = t346) := by simpa using c8))
   clear c8
   (first | rw [c8b0] | (simp only [i64_w, i32_w]; rw [c8b0]) | skip)
   have H' := Aside0.mk H
   clear H
   try go_wp2
   replace BK343 := kd BK343
   replace BK344 := kd BK344
   replace HB := Aside0.mk (below_drew1 HB.out)
   refine start_ (n := 21) (S := fun w' => w'.cell? ⟨gb343, 0, none⟩ = some (.int .i64 a0_0) ∧ w'.cell? ⟨gb343, 1, none⟩ = some (.int .i64 a0_1)) (ds := []) (bA 21 0) (by kernel_rfl) rfl rfl ⟨(blk_cell BK343.out 0).trans rfl, (blk_cell BK343.out 1).trans rfl⟩ (fun hHeld => ?_); refine with_tabW serinettelaw01_NumberSays.tab1 serinettelaw01_NumberSays.bits1 (fun HT_ HW_ => ?_)
   generalize w5.drew = w9 at BK343 BK344 HB hHeld ⊢
   refine take_ (i := 0) (N := some 5) (v := ?_) (a' := ?_) (bA 21 1) rfl rfl (take_ofW HT_.out HW_.out (by kernel_rfl)) (fun _ _ _ h => h) (Or.inl ⟨by rfl, ?_⟩) hHeld ?_ ?_
   rotate_left
   ·
    rintro w' ⟨s0, s1⟩
    go_simp; with_reducible rfl
   rotate_left
   ·
    simp only [ap]
    rfl
   refine take_ (i := 2) (N := some 7) (v := ?_) (a' := ?_) (bA 21 5) rfl rfl (take_ofW HT_.out HW_.out (by kernel_rfl)) (fun _ _ _ h => h) (Or.inl ⟨by rfl, ?_⟩) hHeld ?_ ?_
   rotate_left
   ·
    rintro w' ⟨s0, s1⟩
    go_simp; with_reducible rfl
   rotate_left
   ·
    simp only [ap]
    rfl
   refine one_ (i := 1) (N := some 6) (bA 21 7) rfl rfl (one_of HT_.out (by kernel_rfl)) (by decide) (fun K hK => ?_)
   refine goes_ Try.func33 (by kernel_rfl) rfl #[.agg #[.int .i64 a0_0, .int .i64 a0_1]] (by rfl) rfl rfl (by (try simp only [mp]); first | done | rfl | (simp only [ld]; rfl)) ?_
   with_reducible refine (ratio_Is.calls k a0_0 a0_1 t345 _ A6.out).mono ?_
   rintro e w10 ⟨rfl, hb⟩
   refine ⟨_, rfl, ?_⟩
   replace BK343 := kb BK343 hb
   replace BK344 := kb BK344 hb
   replace HB := hs' HB (by repeat first | (with_reducible exact HB.out) | refine bl1 ?_ | (with_reducible refine bset ?_ ‹_›) | exact HB.out) hb
   (try clear hb); (try clear hb2); (try clear hk); (try clear hi)
   refine hK.out _ _ ⟨(blk_cell BK343.out 0).trans rfl, (blk_cell BK343.out 1).trans rfl⟩ (fun hHeld => ?_)
   clear hK K
   refine norm_ (a' := ?_) ?_ ?_
   rotate_left
   ·
    show Act.put _ (some 6) _ = _
    simp only [ap]; rfl
   refine one_ (i := 3) (N := some 8) (bA 21 15) rfl rfl (one_of HT_.out (by kernel_rfl)) (by decide) (fun K hK => ?_)
   refine goes_ Try.func34 (by kernel_rfl) rfl #[.agg #[.int .i64 a0_0, .int .i64 a0_1]] (by rfl) rfl rfl (by (try simp only [mp]); first | done | rfl | (simp only [ld]; rfl)) ?_
   with_reducible refine (serinetteref01_Is.calls k a0_0 a0_1 t346 _ A7.out).mono ?_
   rintro e w11 ⟨rfl, hb⟩
   refine ⟨_, rfl, ?_⟩
   replace BK343 := kb BK343 hb
   replace BK344 := kb BK344 hb
   replace HB := hs' HB (by repeat first | (with_reducible exact HB.out) | refine bl1 ?_ | (with_reducible refine bset ?_ ‹_›) | exact HB.out) hb
   (try clear hb); (try clear hb2); (try clear hk); (try clear hi)
   refine hK.out _ _ ⟨(blk_cell BK343.out 0).trans rfl, (blk_cell BK343.out 1).trans rfl⟩ (fun hHeld => ?_)
   clear hK K
   refine norm_ (a' := ?_) ?_ ?_
   rotate_left
   ·
    show Act.put _ (some 8) _ = _
    simp only [ap]; rfl
   refine pure_ (i := 4) (N := some 9) (v := ?_) (a' := ?_) (bA 21 31) rfl rfl (any_of HT_.out (by kernel_rfl)) (fun _ _ _ h => h) (Or.inl ⟨by rfl, ?_⟩) ?_ ?_
   rotate_left
   ·
    intro w'
    go_simp; with_reducible rfl
   rotate_left
   ·
    simp only [ap]
    rfl
   refine pure_ (i := 5) (N := some 10) (v := ?_) (a' := ?_) (bA 21 63) rfl rfl (any_of HT_.out (by kernel_rfl)) (fun _ _ _ h => h) (Or.inl ⟨by rfl, ?_⟩) ?_ ?_
   rotate_left
   ·
    intro w'
    go_simp; with_reducible rfl
   rotate_left
   ·
    simp only [ap]
    rfl
   refine pure_ (i := 6) (N := some 11) (v := undef) (a' := ?_) (bA 21 127) rfl rfl (any_of HT_.out (by kernel_rfl)) (fun _ _ _ h => h) (Or.inr ⟨by rfl, rfl⟩) ?_ ?_
   rotate_left
   ·
    simp only [ap]
    rfl
   refine pure_ (i := 7) (N := some 12) (v := undef) (a' := ?_) (bA 21 255) rfl rfl (any_of HT_.out (by kernel_rfl)) (fun _ _ _ h => h) (Or.inr ⟨by rfl, rfl⟩) ?_ ?_
   rotate_left
   ·
    simp only [ap]
    rfl
   refine pure_ (i := 8) (N := some 13) (v := undef) (a' := ?_) (bA 21 511) rfl rfl (any_of HT_.out (by kernel_rfl)) (fun _ _ _ h => h) (Or.inr ⟨by rfl, rfl⟩) ?_ ?_
   rotate_left
   ·
    simp only [ap]
    rfl
   refine pure_ (i := 9) (N := some 14) (v := undef) (a' := ?_) (bA 21 1023) rfl rfl (any_of HT_.out (by kernel_rfl)) (fun _ _ _ h => h) (Or.inr ⟨by rfl, rfl⟩) ?_ ?_
   rotate_left
   ·
    simp only [ap]
    rfl
   refine pure_ (i := 10) (N := some 15) (v := undef) (a' := ?_) (bA 21 2047) rfl rfl (any_of HT_.out (by kernel_rfl)) (fun _ _ _ h => h) (Or.inr ⟨by rfl, rfl⟩) ?_ ?_
   rotate_left
   ·
    simp only [ap]
    rfl
   refine pure_ (i := 11) (N := some 16) (v := ?_) (a' := ?_) (bA 21 4095) rfl rfl (any_of HT_.out (by kernel_rfl)) (fun _ _ _ h => h) (Or.inl ⟨by rfl, ?_⟩) ?_ ?_
   rotate_left
   ·
    intro w'
    go_simp; with_reducible rfl
   rotate_left
   ·
    simp only [ap]
    rfl
   refine pure_ (i := 12) (N := some 17) (v := ?_) (a' := ?_) (bA 21 8191) rfl rfl (any_of HT_.out (by kernel_rfl)) (fun _ _ _ h => h) (Or.inl ⟨by rfl, ?_⟩) ?_ ?_
   rotate_left
   ·
    intro w'
    go_simp; with_reducible rfl
   rotate_left
   ·
    simp only [ap]
    rfl
   refine pure_ (i := 13) (N := some 18) (v := undef) (a' := ?_) (bA 21 16383) rfl rfl (any_of HT_.out (by kernel_rfl)) (fun _ _ _ h => h) (Or.inr ⟨by rfl, rfl⟩) ?_ ?_
   rotate_left
   ·
    simp only [ap]
    rfl
   refine pure_ (i := 14) (N := some 19) (v := undef) (a' := ?_) (bA 21 32767) rfl rfl (any_of HT_.out (by kernel_rfl)) (fun _ _ _ h => h) (Or.inr ⟨by rfl, rfl⟩) ?_ ?_
   rotate_left
   ·
    simp only [ap]
    rfl
   refine pure_ (i := 15) (N := some 20) (v := undef) (a' := ?_) (bA 21 65535) rfl rfl (any_of HT_.out (by kernel_rfl)) (fun _ _ _ h => h) (Or.inr ⟨by rfl, rfl⟩) ?_ ?_
   rotate_left
   ·
    simp only [ap]
    rfl
   refine pure_ (i := 16) (N := some 21) (v := undef) (a' := ?_) (bA 21 131071) rfl rfl (any_of HT_.out (by kernel_rfl)) (fun _ _ _ h => h) (Or.inr ⟨by rfl, rfl⟩) ?_ ?_
   rotate_left
   ·
    simp only [ap]
    rfl
   refine pure_ (i := 17) (N := some 22) (v := undef) (a' := ?_) (bA 21 262143) rfl rfl (any_of HT_.out (by kernel_rfl)) (fun _ _ _ h => h) (Or.inr ⟨by rfl, rfl⟩) ?_ ?_
   rotate_left
   ·
    simp only [ap]
    rfl
   refine pure_ (i := 18) (N := some 23) (v := undef) (a' := ?_) (bA 21 524287) rfl rfl (any_of HT_.out (by kernel_rfl)) (fun _ _ _ h => h) (Or.inr ⟨by rfl, rfl⟩) ?_ ?_
   rotate_left
   ·
    simp only [ap]
    rfl
   refine pure_ (i := 19) (N := some 24) (v := undef) (a' := ?_) (bA 21 1048575) rfl rfl (any_of HT_.out (by kernel_rfl)) (fun _ _ _ h => h) (Or.inr ⟨by rfl, rfl⟩) ?_ ?_
   rotate_left
   ·
    simp only [ap]
    rfl
   refine pure_ (i := 20) (N := some 25) (v := ?_) (a' := ?_) (bA 21 2097151) rfl rfl (any_of HT_.out (by kernel_rfl)) (fun _ _ _ h => h) (Or.inl ⟨by rfl, ?_⟩) ?_ ?_
   rotate_left
   ·
    intro w'
    go_simp; with_reducible rfl
   rotate_left
   ·
    simp only [ap]
    rfl
   refine done_ (done_of HT_.out (by kernel_rfl)) ?_
   try go_wp2
   go_meet
   case rel => exact ⟨_, (true), (by first | rfl | (simp; done) | (simp [*]; done)), H', ⟨by first | omega | exact Nat.le_refl _⟩, ⟨by refine bk ?_; exact BK343.out⟩, ⟨by refine bk ?_; exact BK344.out⟩, ⟨by repeat first | exact HB.out | refine bset ?_ ‹_› | apply below_alloc | apply pw_below_drewN | apply below_drew1⟩⟩
  ·
   rw [if_neg c8] at H
   have c8b0 : (t345 != t346) = false := by simpa using c8
   (try (have c8b1 : decide (t345 = t346) = true := by simpa using c8))
   (try (have c8b2 : (t345 == t346) = true := by simpa using c8))
   clear c8
   (first | rw [c8b0] | (simp only [i64_w, i32_w]; rw [c8b0]) | skip)
   replace H := Option.bind_eq_some_iff.mp H
   obtain ⟨t347, A120, H⟩ := H
   (try dsimp only at H)
   have A12 := Aside0.mk A120
   clear A120
   replace H := Option.bind_eq_some_iff.mp H
   obtain ⟨t348, A130, H⟩ := H
   (try dsimp only at H)
   have A13 := Aside0.mk A130
   clear A130
   by_cases c14 : (t347 != t348) = true
   ·
    rw [if_pos c14] at H
    have c14b0 : (t347 != t348) = true := c14
    (try (have c14b1 : decide (t347 = t348) = false := by simpa using c14))
    (try (have c14b2 : (t347 == t348) = false := by simpa using c14))
    (try (have c14b3 : ¬ (t347 = t348) := by simpa using c14))
    clear c14
    have H' := Aside0.mk H
    clear H
    try go_wp2
    replace BK343 := kd BK343
    replace BK344 := kd BK344
    replace HB := Aside0.mk (below_drew1 HB.out)
    refine start_ (n := 21) (S := fun w' => w'.cell? ⟨gb343, 0, none⟩ = some (.int .i64 a0_0) ∧ w'.cell? ⟨gb343, 1, none⟩ = some (.int .i64 a0_1)) (ds := []) (bA 21 0) (by kernel_rfl) rfl rfl ⟨(blk_cell BK343.out 0).trans rfl, (blk_cell BK343.out 1).trans rfl⟩ (fun hHeld => ?_); refine with_tabW serinettelaw01_NumberSays.tab1 serinettelaw01_NumberSays.bits1 (fun HT_ HW_ => ?_)
    generalize w5.drew = w15 at BK343 BK344 HB hHeld ⊢
    refine take_ (i := 0) (N := some 5) (v := ?_) (a' := ?_) (bA 21 1) rfl rfl (take_ofW HT_.out HW_.out (by kernel_rfl)) (fun _ _ _ h => h) (Or.inl ⟨by rfl, ?_⟩) hHeld ?_ ?_
    rotate_left
    ·
     rintro w' ⟨s0, s1⟩
     go_simp; with_reducible rfl
    rotate_left
    ·
     simp only [ap]
     rfl
    refine take_ (i := 2) (N := some 7) (v := ?_) (a' := ?_) (bA 21 5) rfl rfl (take_ofW HT_.out HW_.out (by kernel_rfl)) (fun _ _ _ h => h) (Or.inl ⟨by rfl, ?_⟩) hHeld ?_ ?_
    rotate_left
    ·
     rintro w' ⟨s0, s1⟩
     go_simp; with_reducible rfl
    rotate_left
    ·
     simp only [ap]
     rfl
    refine one_ (i := 1) (N := some 6) (bA 21 7) rfl rfl (one_of HT_.out (by kernel_rfl)) (by decide) (fun K hK => ?_)
    refine goes_ Try.func33 (by kernel_rfl) rfl #[.agg #[.int .i64 a0_0, .int .i64 a0_1]] (by rfl) rfl rfl (by (try simp only [mp]); first | done | rfl | (simp only [ld]; rfl)) ?_
    with_reducible refine (ratio_Is.calls k a0_0 a0_1 t345 _ A6.out).mono ?_
    rintro e w16 ⟨rfl, hb⟩
    refine ⟨_, rfl, ?_⟩
    replace BK343 := kb BK343 hb
    replace BK344 := kb BK344 hb
    replace HB := hs' HB (by repeat first | (with_reducible exact HB.out) | refine bl1 ?_ | (with_reducible refine bset ?_ ‹_›) | exact HB.out) hb
    (try clear hb); (try clear hb2); (try clear hk); (try clear hi)
    refine hK.out _ _ ⟨(blk_cell BK343.out 0).trans rfl, (blk_cell BK343.out 1).trans rfl⟩ (fun hHeld => ?_)
    clear hK K
    refine norm_ (a' := ?_) ?_ ?_
    rotate_left
    ·
     show Act.put _ (some 6) _ = _
     simp only [ap]; rfl
    refine one_ (i := 3) (N := some 8) (bA 21 15) rfl rfl (one_of HT_.out (by kernel_rfl)) (by decide) (fun K hK => ?_)
    refine goes_ Try.func34 (by kernel_rfl) rfl #[.agg #[.int .i64 a0_0, .int .i64 a0_1]] (by rfl) rfl rfl (by (try simp only [mp]); first | done | rfl | (simp only [ld]; rfl)) ?_
    with_reducible refine (serinetteref01_Is.calls k a0_0 a0_1 t346 _ A7.out).mono ?_
    rintro e w17 ⟨rfl, hb⟩
    refine ⟨_, rfl, ?_⟩
    replace BK343 := kb BK343 hb
    replace BK344 := kb BK344 hb
    replace HB := hs' HB (by repeat first | (with_reducible exact HB.out) | refine bl1 ?_ | (with_reducible refine bset ?_ ‹_›) | exact HB.out) hb
    (try clear hb); (try clear hb2); (try clear hk); (try clear hi)
    refine hK.out _ _ ⟨(blk_cell BK343.out 0).trans rfl, (blk_cell BK343.out 1).trans rfl⟩ (fun hHeld => ?_)
    clear hK K
    refine norm_ (a' := ?_) ?_ ?_
    rotate_left
    ·
     show Act.put _ (some 8) _ = _
     simp only [ap]; rfl
    refine pure_ (i := 4) (N := some 9) (v := ?_) (a' := ?_) (bA 21 31) rfl rfl (any_of HT_.out (by kernel_rfl)) (fun _ _ _ h => h) (Or.inl ⟨by rfl, ?_⟩) ?_ ?_
    rotate_left
    ·
     intro w'
     go_simp; with_reducible rfl
    rotate_left
    ·
     simp only [ap]
     rfl
    refine pure_ (i := 5) (N := some 10) (v := ?_) (a' := ?_) (bA 21 63) rfl rfl (any_of HT_.out (by kernel_rfl)) (fun _ _ _ h => h) (Or.inl ⟨by rfl, ?_⟩) ?_ ?_
    rotate_left
    ·
     intro w'
     go_simp; with_reducible rfl
    rotate_left
    ·
     simp only [ap]
     rfl
    refine take_ (i := 6) (N := some 11) (v := ?_) (a' := ?_) (bA 21 127) rfl rfl (take_ofW HT_.out HW_.out (by kernel_rfl)) (fun _ _ _ h => h) (Or.inl ⟨by rfl, ?_⟩) hHeld ?_ ?_
    rotate_left
    ·
     rintro w' ⟨s0, s1⟩
     go_simp; with_reducible rfl
    rotate_left
    ·
     simp only [ap]
     rfl
    refine take_ (i := 8) (N := some 13) (v := ?_) (a' := ?_) (bA 21 383) rfl rfl (take_ofW HT_.out HW_.out (by kernel_rfl)) (fun _ _ _ h => h) (Or.inl ⟨by rfl, ?_⟩) hHeld ?_ ?_
    rotate_left
    ·
     rintro w' ⟨s0, s1⟩
     go_simp; with_reducible rfl
    rotate_left
    ·
     simp only [ap]
     rfl
    refine one_ (i := 7) (N := some 12) (bA 21 511) rfl rfl (one_of HT_.out (by kernel_rfl)) (by decide) (fun K hK => ?_)
    refine goes_ Try.func35 (by kernel_rfl) rfl #[.agg #[.int .i64 a0_0, .int .i64 a0_1]] (by rfl) rfl rfl (by (try simp only [mp]); first | done | rfl | (simp only [ld]; rfl)) ?_
    with_reducible refine (ratio_Valid.calls k a0_0 a0_1 t347 _ A12.out).mono ?_
    rintro e w18 ⟨rfl, hb⟩
    refine ⟨_, rfl, ?_⟩
    replace BK343 := kb BK343 hb
    replace BK344 := kb BK344 hb
    replace HB := hs' HB (by repeat first | (with_reducible exact HB.out) | refine bl1 ?_ | (with_reducible refine bset ?_ ‹_›) | exact HB.out) hb
    (try clear hb); (try clear hb2); (try clear hk); (try clear hi)
    refine hK.out _ _ ⟨(blk_cell BK343.out 0).trans rfl, (blk_cell BK343.out 1).trans rfl⟩ (fun hHeld => ?_)
    clear hK K
    refine norm_ (a' := ?_) ?_ ?_
    rotate_left
    ·
     show Act.put _ (some 12) _ = _
     simp only [ap]; rfl
    refine one_ (i := 9) (N := some 14) (bA 21 1023) rfl rfl (one_of HT_.out (by kernel_rfl)) (by decide) (fun K hK => ?_)
    refine goes_ Try.func36 (by kernel_rfl) rfl #[.agg #[.int .i64 a0_0, .int .i64 a0_1]] (by rfl) rfl rfl (by (try simp only [mp]); first | done | rfl | (simp only [ld]; rfl)) ?_
    with_reducible refine (serinetteref01_Valid.calls k a0_0 a0_1 t348 _ A13.out).mono ?_
    rintro e w19 ⟨rfl, hb⟩
    refine ⟨_, rfl, ?_⟩
    replace BK343 := kb BK343 hb
    replace BK344 := kb BK344 hb
    replace HB := hs' HB (by repeat first | (with_reducible exact HB.out) | refine bl1 ?_ | (with_reducible refine bset ?_ ‹_›) | exact HB.out) hb
    (try clear hb); (try clear hb2); (try clear hk); (try clear hi)
    refine hK.out _ _ ⟨(blk_cell BK343.out 0).trans rfl, (blk_cell BK343.out 1).trans rfl⟩ (fun hHeld => ?_)
    clear hK K
    refine norm_ (a' := ?_) ?_ ?_
    rotate_left
    ·
     show Act.put _ (some 14) _ = _
     simp only [ap]; rfl
    refine pure_ (i := 10) (N := some 15) (v := ?_) (a' := ?_) (bA 21 2047) rfl rfl (any_of HT_.out (by kernel_rfl)) (fun _ _ _ h => h) (Or.inl ⟨by rfl, ?_⟩) ?_ ?_
    rotate_left
    ·
     intro w'
     go_simp; with_reducible rfl
    rotate_left
    ·
     simp only [ap]
     rfl
    refine pure_ (i := 11) (N := some 16) (v := ?_) (a' := ?_) (bA 21 4095) rfl rfl (any_of HT_.out (by kernel_rfl)) (fun _ _ _ h => h) (Or.inl ⟨by rfl, ?_⟩) ?_ ?_
    rotate_left
    ·
     intro w'
     go_simp; with_reducible rfl
    rotate_left
    ·
     simp only [ap]
     rfl
    refine pure_ (i := 12) (N := some 17) (v := ?_) (a' := ?_) (bA 21 8191) rfl rfl (any_of HT_.out (by kernel_rfl)) (fun _ _ _ h => h) (Or.inl ⟨by rfl, ?_⟩) ?_ ?_
    rotate_left
    ·
     intro w'
     go_simp; with_reducible rfl
    rotate_left
    ·
     simp only [ap]
     rfl
    refine pure_ (i := 13) (N := some 18) (v := undef) (a' := ?_) (bA 21 16383) rfl rfl (any_of HT_.out (by kernel_rfl)) (fun _ _ _ h => h) (Or.inr ⟨by rfl, rfl⟩) ?_ ?_
    rotate_left
    ·
     simp only [ap]
     rfl
    refine pure_ (i := 14) (N := some 19) (v := undef) (a' := ?_) (bA 21 32767) rfl rfl (any_of HT_.out (by kernel_rfl)) (fun _ _ _ h => h) (Or.inr ⟨by rfl, rfl⟩) ?_ ?_
    rotate_left
    ·
     simp only [ap]
     rfl
    refine pure_ (i := 15) (N := some 20) (v := undef) (a' := ?_) (bA 21 65535) rfl rfl (any_of HT_.out (by kernel_rfl)) (fun _ _ _ h => h) (Or.inr ⟨by rfl, rfl⟩) ?_ ?_
    rotate_left
    ·
     simp only [ap]
     rfl
    refine pure_ (i := 16) (N := some 21) (v := undef) (a' := ?_) (bA 21 131071) rfl rfl (any_of HT_.out (by kernel_rfl)) (fun _ _ _ h => h) (Or.inr ⟨by rfl, rfl⟩) ?_ ?_
    rotate_left
    ·
     simp only [ap]
     rfl
    refine pure_ (i := 17) (N := some 22) (v := undef) (a' := ?_) (bA 21 262143) rfl rfl (any_of HT_.out (by kernel_rfl)) (fun _ _ _ h => h) (Or.inr ⟨by rfl, rfl⟩) ?_ ?_
    rotate_left
    ·
     simp only [ap]
     rfl
    refine pure_ (i := 18) (N := some 23) (v := undef) (a' := ?_) (bA 21 524287) rfl rfl (any_of HT_.out (by kernel_rfl)) (fun _ _ _ h => h) (Or.inr ⟨by rfl, rfl⟩) ?_ ?_
    rotate_left
    ·
     simp only [ap]
     rfl
    refine pure_ (i := 19) (N := some 24) (v := undef) (a' := ?_) (bA 21 1048575) rfl rfl (any_of HT_.out (by kernel_rfl)) (fun _ _ _ h => h) (Or.inr ⟨by rfl, rfl⟩) ?_ ?_
    rotate_left
    ·
     simp only [ap]
     rfl
    refine pure_ (i := 20) (N := some 25) (v := ?_) (a' := ?_) (bA 21 2097151) rfl rfl (any_of HT_.out (by kernel_rfl)) (fun _ _ _ h => h) (Or.inl ⟨by rfl, ?_⟩) ?_ ?_
    rotate_left
    ·
     intro w'
     go_simp; with_reducible rfl
    rotate_left
    ·
     simp only [ap]
     rfl
    refine done_ (done_of HT_.out (by kernel_rfl)) ?_
    try go_wp2
    go_meet
    case rel => exact ⟨_, (true), (by first | rfl | (simp; done) | (simp [*]; done)), H', ⟨by first | omega | exact Nat.le_refl _⟩, ⟨by refine bk ?_; exact BK343.out⟩, ⟨by refine bk ?_; exact BK344.out⟩, ⟨by repeat first | exact HB.out | refine bset ?_ ‹_› | apply below_alloc | apply pw_below_drewN | apply below_drew1⟩⟩
   ·
    rw [if_neg c14] at H
    have c14b0 : (t347 != t348) = false := by simpa using c14
    (try (have c14b1 : decide (t347 = t348) = true := by simpa using c14))
    (try (have c14b2 : (t347 == t348) = true := by simpa using c14))
    clear c14
    replace H := Option.bind_eq_some_iff.mp H
    obtain ⟨t349, A200, H⟩ := H
    (try dsimp only at H)
    have A20 := Aside0.mk A200
    clear A200
    replace H := Option.bind_eq_some_iff.mp H
    obtain ⟨t350, A210, H⟩ := H
    (try dsimp only at H)
    have A21 := Aside0.mk A210
    clear A210
    have H' := Aside0.mk H
    clear H
    try go_wp2
    replace BK343 := kd BK343
    replace BK344 := kd BK344
    replace HB := Aside0.mk (below_drew1 HB.out)
    refine start_ (n := 21) (S := fun w' => w'.cell? ⟨gb343, 0, none⟩ = some (.int .i64 a0_0) ∧ w'.cell? ⟨gb343, 1, none⟩ = some (.int .i64 a0_1) ∧ w'.cell? ⟨gb344, 0, none⟩ = some (.int .i64 a1_0) ∧ w'.cell? ⟨gb344, 1, none⟩ = some (.int .i64 a1_1)) (ds := []) (bA 21 0) (by kernel_rfl) rfl rfl ⟨(blk_cell BK343.out 0).trans rfl, (blk_cell BK343.out 1).trans rfl, (blk_cell BK344.out 0).trans rfl, (blk_cell BK344.out 1).trans rfl⟩ (fun hHeld => ?_); refine with_tabW serinettelaw01_NumberSays.tab1 serinettelaw01_NumberSays.bits1 (fun HT_ HW_ => ?_)
    generalize w5.drew = w22 at BK343 BK344 HB hHeld ⊢
    refine take_ (i := 0) (N := some 5) (v := ?_) (a' := ?_) (bA 21 1) rfl rfl (take_ofW HT_.out HW_.out (by kernel_rfl)) (fun _ _ _ h => h) (Or.inl ⟨by rfl, ?_⟩) hHeld ?_ ?_
    rotate_left
    ·
     rintro w' ⟨s0, s1, s2, s3⟩
     go_simp; with_reducible rfl
    rotate_left
    ·
     simp only [ap]
     rfl
    refine take_ (i := 2) (N := some 7) (v := ?_) (a' := ?_) (bA 21 5) rfl rfl (take_ofW HT_.out HW_.out (by kernel_rfl)) (fun _ _ _ h => h) (Or.inl ⟨by rfl, ?_⟩) hHeld ?_ ?_
    rotate_left
    ·
     rintro w' ⟨s0, s1, s2, s3⟩
     go_simp; with_reducible rfl
    rotate_left
    ·
     simp only [ap]
     rfl
    refine one_ (i := 1) (N := some 6) (bA 21 7) rfl rfl (one_of HT_.out (by kernel_rfl)) (by decide) (fun K hK => ?_)
    refine goes_ Try.func33 (by kernel_rfl) rfl #[.agg #[.int .i64 a0_0, .int .i64 a0_1]] (by rfl) rfl rfl (by (try simp only [mp]); first | done | rfl | (simp only [ld]; rfl)) ?_
    with_reducible refine (ratio_Is.calls k a0_0 a0_1 t345 _ A6.out).mono ?_
    rintro e w23 ⟨rfl, hb⟩
    refine ⟨_, rfl, ?_⟩
    replace BK343 := kb BK343 hb
    replace BK344 := kb BK344 hb
    replace HB := hs' HB (by repeat first | (with_reducible exact HB.out) | refine bl1 ?_ | (with_reducible refine bset ?_ ‹_›) | exact HB.out) hb
    (try clear hb); (try clear hb2); (try clear hk); (try clear hi)
    refine hK.out _ _ ⟨(blk_cell BK343.out 0).trans rfl, (blk_cell BK343.out 1).trans rfl, (blk_cell BK344.out 0).trans rfl, (blk_cell BK344.out 1).trans rfl⟩ (fun hHeld => ?_)
    clear hK K
    refine norm_ (a' := ?_) ?_ ?_
    rotate_left
    ·
     show Act.put _ (some 6) _ = _
     simp only [ap]; rfl
    refine one_ (i := 3) (N := some 8) (bA 21 15) rfl rfl (one_of HT_.out (by kernel_rfl)) (by decide) (fun K hK => ?_)
    refine goes_ Try.func34 (by kernel_rfl) rfl #[.agg #[.int .i64 a0_0, .int .i64 a0_1]] (by rfl) rfl rfl (by (try simp only [mp]); first | done | rfl | (simp only [ld]; rfl)) ?_
    with_reducible refine (serinetteref01_Is.calls k a0_0 a0_1 t346 _ A7.out).mono ?_
    rintro e w24 ⟨rfl, hb⟩
    refine ⟨_, rfl, ?_⟩
    replace BK343 := kb BK343 hb
    replace BK344 := kb BK344 hb
    replace HB := hs' HB (by repeat first | (with_reducible exact HB.out) | refine bl1 ?_ | (with_reducible refine bset ?_ ‹_›) | exact HB.out) hb
    (try clear hb); (try clear hb2); (try clear hk); (try clear hi)
    refine hK.out _ _ ⟨(blk_cell BK343.out 0).trans rfl, (blk_cell BK343.out 1).trans rfl, (blk_cell BK344.out 0).trans rfl, (blk_cell BK344.out 1).trans rfl⟩ (fun hHeld => ?_)
    clear hK K
    refine norm_ (a' := ?_) ?_ ?_
    rotate_left
    ·
     show Act.put _ (some 8) _ = _
     simp only [ap]; rfl
    refine pure_ (i := 4) (N := some 9) (v := ?_) (a' := ?_) (bA 21 31) rfl rfl (any_of HT_.out (by kernel_rfl)) (fun _ _ _ h => h) (Or.inl ⟨by rfl, ?_⟩) ?_ ?_
    rotate_left
    ·
     intro w'
     go_simp; with_reducible rfl
    rotate_left
    ·
     simp only [ap]
     rfl
    refine pure_ (i := 5) (N := some 10) (v := ?_) (a' := ?_) (bA 21 63) rfl rfl (any_of HT_.out (by kernel_rfl)) (fun _ _ _ h => h) (Or.inl ⟨by rfl, ?_⟩) ?_ ?_
    rotate_left
    ·
     intro w'
     go_simp; with_reducible rfl
    rotate_left
    ·
     simp only [ap]
     rfl
    refine take_ (i := 6) (N := some 11) (v := ?_) (a' := ?_) (bA 21 127) rfl rfl (take_ofW HT_.out HW_.out (by kernel_rfl)) (fun _ _ _ h => h) (Or.inl ⟨by rfl, ?_⟩) hHeld ?_ ?_
    rotate_left
    ·
     rintro w' ⟨s0, s1, s2, s3⟩
     go_simp; with_reducible rfl
    rotate_left
    ·
     simp only [ap]
     rfl
    refine take_ (i := 8) (N := some 13) (v := ?_) (a' := ?_) (bA 21 383) rfl rfl (take_ofW HT_.out HW_.out (by kernel_rfl)) (fun _ _ _ h => h) (Or.inl ⟨by rfl, ?_⟩) hHeld ?_ ?_
    rotate_left
    ·
     rintro w' ⟨s0, s1, s2, s3⟩
     go_simp; with_reducible rfl
    rotate_left
    ·
     simp only [ap]
     rfl
    refine one_ (i := 7) (N := some 12) (bA 21 511) rfl rfl (one_of HT_.out (by kernel_rfl)) (by decide) (fun K hK => ?_)
    refine goes_ Try.func35 (by kernel_rfl) rfl #[.agg #[.int .i64 a0_0, .int .i64 a0_1]] (by rfl) rfl rfl (by (try simp only [mp]); first | done | rfl | (simp only [ld]; rfl)) ?_
    with_reducible refine (ratio_Valid.calls k a0_0 a0_1 t347 _ A12.out).mono ?_
    rintro e w25 ⟨rfl, hb⟩
    refine ⟨_, rfl, ?_⟩
    replace BK343 := kb BK343 hb
    replace BK344 := kb BK344 hb
    replace HB := hs' HB (by repeat first | (with_reducible exact HB.out) | refine bl1 ?_ | (with_reducible refine bset ?_ ‹_›) | exact HB.out) hb
    (try clear hb); (try clear hb2); (try clear hk); (try clear hi)
    refine hK.out _ _ ⟨(blk_cell BK343.out 0).trans rfl, (blk_cell BK343.out 1).trans rfl, (blk_cell BK344.out 0).trans rfl, (blk_cell BK344.out 1).trans rfl⟩ (fun hHeld => ?_)
    clear hK K
    refine norm_ (a' := ?_) ?_ ?_
    rotate_left
    ·
     show Act.put _ (some 12) _ = _
     simp only [ap]; rfl
    refine one_ (i := 9) (N := some 14) (bA 21 1023) rfl rfl (one_of HT_.out (by kernel_rfl)) (by decide) (fun K hK => ?_)
    refine goes_ Try.func36 (by kernel_rfl) rfl #[.agg #[.int .i64 a0_0, .int .i64 a0_1]] (by rfl) rfl rfl (by (try simp only [mp]); first | done | rfl | (simp only [ld]; rfl)) ?_
    with_reducible refine (serinetteref01_Valid.calls k a0_0 a0_1 t348 _ A13.out).mono ?_
    rintro e w26 ⟨rfl, hb⟩
    refine ⟨_, rfl, ?_⟩
    replace BK343 := kb BK343 hb
    replace BK344 := kb BK344 hb
    replace HB := hs' HB (by repeat first | (with_reducible exact HB.out) | refine bl1 ?_ | (with_reducible refine bset ?_ ‹_›) | exact HB.out) hb
    (try clear hb); (try clear hb2); (try clear hk); (try clear hi)
    refine hK.out _ _ ⟨(blk_cell BK343.out 0).trans rfl, (blk_cell BK343.out 1).trans rfl, (blk_cell BK344.out 0).trans rfl, (blk_cell BK344.out 1).trans rfl⟩ (fun hHeld => ?_)
    clear hK K
    refine norm_ (a' := ?_) ?_ ?_
    rotate_left
    ·
     show Act.put _ (some 14) _ = _
     simp only [ap]; rfl
    refine pure_ (i := 10) (N := some 15) (v := ?_) (a' := ?_) (bA 21 2047) rfl rfl (any_of HT_.out (by kernel_rfl)) (fun _ _ _ h => h) (Or.inl ⟨by rfl, ?_⟩) ?_ ?_
    rotate_left
    ·
     intro w'
     go_simp; with_reducible rfl
    rotate_left
    ·
     simp only [ap]
     rfl
    refine pure_ (i := 11) (N := some 16) (v := ?_) (a' := ?_) (bA 21 4095) rfl rfl (any_of HT_.out (by kernel_rfl)) (fun _ _ _ h => h) (Or.inl ⟨by rfl, ?_⟩) ?_ ?_
    rotate_left
    ·
     intro w'
     go_simp; with_reducible rfl
    rotate_left
    ·
     simp only [ap]
     rfl
    refine pure_ (i := 12) (N := some 17) (v := ?_) (a' := ?_) (bA 21 8191) rfl rfl (any_of HT_.out (by kernel_rfl)) (fun _ _ _ h => h) (Or.inl ⟨by rfl, ?_⟩) ?_ ?_
    rotate_left
    ·
     intro w'
     go_simp; with_reducible rfl
    rotate_left
    ·
     simp only [ap]
     rfl
    refine take_ (i := 13) (N := some 18) (v := ?_) (a' := ?_) (bA 21 16383) rfl rfl (take_ofW HT_.out HW_.out (by kernel_rfl)) (fun _ _ _ h => h) (Or.inl ⟨by rfl, ?_⟩) hHeld ?_ ?_
    rotate_left
    ·
     rintro w' ⟨s0, s1, s2, s3⟩
     go_simp; with_reducible rfl
    rotate_left
    ·
     simp only [ap]
     rfl
    refine take_ (i := 14) (N := some 19) (v := ?_) (a' := ?_) (bA 21 32767) rfl rfl (take_ofW HT_.out HW_.out (by kernel_rfl)) (fun _ _ _ h => h) (Or.inl ⟨by rfl, ?_⟩) hHeld ?_ ?_
    rotate_left
    ·
     rintro w' ⟨s0, s1, s2, s3⟩
     go_simp; with_reducible rfl
    rotate_left
    ·
     simp only [ap]
     rfl
    refine take_ (i := 16) (N := some 21) (v := ?_) (a' := ?_) (bA 21 98303) rfl rfl (take_ofW HT_.out HW_.out (by kernel_rfl)) (fun _ _ _ h => h) (Or.inl ⟨by rfl, ?_⟩) hHeld ?_ ?_
    rotate_left
    ·
     rintro w' ⟨s0, s1, s2, s3⟩
     go_simp; with_reducible rfl
    rotate_left
    ·
     simp only [ap]
     rfl
    refine take_ (i := 17) (N := some 22) (v := ?_) (a' := ?_) (bA 21 229375) rfl rfl (take_ofW HT_.out HW_.out (by kernel_rfl)) (fun _ _ _ h => h) (Or.inl ⟨by rfl, ?_⟩) hHeld ?_ ?_
    rotate_left
    ·
     rintro w' ⟨s0, s1, s2, s3⟩
     go_simp; with_reducible rfl
    rotate_left
    ·
     simp only [ap]
     rfl
    refine one_ (i := 15) (N := some 20) (bA 21 262143) rfl rfl (one_of HT_.out (by kernel_rfl)) (by decide) (fun K hK => ?_)
    refine goes_ Try.func19 (by kernel_rfl) rfl #[.agg #[.int .i64 a0_0, .int .i64 a0_1], .agg #[.int .i64 a1_0, .int .i64 a1_1]] (by rfl) rfl rfl (by (try simp only [mp]); first | done | rfl | (simp only [ld]; rfl)) ?_
    with_reducible refine (ratio_Cmp.calls k a0_0 a0_1 a1_0 a1_1 t349 _ A20.out).mono ?_
    rintro e w27 ⟨rfl, hb⟩
    refine ⟨_, rfl, ?_⟩
    replace BK343 := kb BK343 hb
    replace BK344 := kb BK344 hb
    replace HB := hs' HB (by repeat first | (with_reducible exact HB.out) | refine bl1 ?_ | (with_reducible refine bset ?_ ‹_›) | exact HB.out) hb
    (try clear hb); (try clear hb2); (try clear hk); (try clear hi)
    refine hK.out _ _ ⟨(blk_cell BK343.out 0).trans rfl, (blk_cell BK343.out 1).trans rfl, (blk_cell BK344.out 0).trans rfl, (blk_cell BK344.out 1).trans rfl⟩ (fun hHeld => ?_)
    clear hK K
    refine norm_ (a' := ?_) ?_ ?_
    rotate_left
    ·
     show Act.put _ (some 20) _ = _
     simp only [ap]; rfl
    refine one_ (i := 18) (N := some 23) (bA 21 524287) rfl rfl (one_of HT_.out (by kernel_rfl)) (by decide) (fun K hK => ?_)
    refine goes_ Try.func37 (by kernel_rfl) rfl #[.agg #[.int .i64 a0_0, .int .i64 a0_1], .agg #[.int .i64 a1_0, .int .i64 a1_1]] (by rfl) rfl rfl (by (try simp only [mp]); first | done | rfl | (simp only [ld]; rfl)) ?_
    with_reducible refine (serinetteref01_Cmp.calls k a0_0 a0_1 a1_0 a1_1 t350 _ A21.out).mono ?_
    rintro e w28 ⟨rfl, hb⟩
    refine ⟨_, rfl, ?_⟩
    replace BK343 := kb BK343 hb
    replace BK344 := kb BK344 hb
    replace HB := hs' HB (by repeat first | (with_reducible exact HB.out) | refine bl1 ?_ | (with_reducible refine bset ?_ ‹_›) | exact HB.out) hb
    (try clear hb); (try clear hb2); (try clear hk); (try clear hi)
    refine hK.out _ _ ⟨(blk_cell BK343.out 0).trans rfl, (blk_cell BK343.out 1).trans rfl, (blk_cell BK344.out 0).trans rfl, (blk_cell BK344.out 1).trans rfl⟩ (fun hHeld => ?_)
    clear hK K
    refine norm_ (a' := ?_) ?_ ?_
    rotate_left
    ·
     show Act.put _ (some 23) _ = _
     simp only [ap]; rfl
    refine pure_ (i := 19) (N := some 24) (v := ?_) (a' := ?_) (bA 21 1048575) rfl rfl (any_of HT_.out (by kernel_rfl)) (fun _ _ _ h => h) (Or.inl ⟨by rfl, ?_⟩) ?_ ?_
    rotate_left
    ·
     intro w'
     go_simp; with_reducible rfl
    rotate_left
    ·
     simp only [ap]
     rfl
    refine pure_ (i := 20) (N := some 25) (v := ?_) (a' := ?_) (bA 21 2097151) rfl rfl (any_of HT_.out (by kernel_rfl)) (fun _ _ _ h => h) (Or.inl ⟨by rfl, ?_⟩) ?_ ?_
    rotate_left
    ·
     intro w'
     go_simp; with_reducible rfl
    rotate_left
    ·
     simp only [ap]
     rfl
    refine done_ (done_of HT_.out (by kernel_rfl)) ?_
    try go_wp2
    go_meet
    case rel => exact ⟨_, ((t349 != t350)), (by first | rfl | (simp; done) | (simp [*]; done)), H', ⟨by first | omega | exact Nat.le_refl _⟩, ⟨by refine bk ?_; exact BK343.out⟩, ⟨by refine bk ?_; exact BK344.out⟩, ⟨by repeat first | exact HB.out | refine bset ?_ ‹_› | apply below_alloc | apply pw_below_drewN | apply below_drew1⟩⟩
 case rest =>
  clear HC3
  (try clear c1); (try clear p2); (try clear c3); (try clear c8); (try clear c8b0); (try clear c8b1); (try clear c8b2); (try clear c14); (try clear c14b0); (try clear c14b1); (try clear c14b2); (try clear c19)
  obtain ⟨kq, x25_2, rfl, HA, HJ2, BK343, BK344, HB⟩ := hcut
  cases kq with
  | zero => exact absurd HA.out (by simp [serinettelaw01_NumberSays.j0])
  | succ kj2 =>
   have H := HA.out
   clear HA
   simp only [serinettelaw01_NumberSays.j0] at H
   by_cases c29 : x25_2 = true
   ·
    subst c29
    rw [if_pos rfl] at H
    exact absurd (H.trans (congrArg some hr.out)) (by simp)
   ·
    replace c29 := Bool.eq_false_iff.mpr c29
    subst c29
    rw [if_neg (show ¬ (false = true) by decide)] at H
    have HC30 := Aside0.mk H
    clear H
    go_upto_region 3 with (fail)
    go_cut [68] (fun v68 wc => ∃ (kq : Nat) (x68_29 : Bool), v68 = .bool x68_29 ∧ Aside0 (serinettelaw01_NumberSays.j1 kq x68_29 a0_0 a0_1 a1_0 a1_1 = some r) ∧ Aside0 (kq ≤ kj2) ∧ Aside0 (wc.heap[gb343]? = some (.cells #[.int .i64 a0_0, .int .i64 a0_1] 24 (0, 0))) ∧ Aside0 (wc.heap[gb344]? = some (.cells #[.int .i64 a1_0, .int .i64 a1_1] 24 (0, 0))) ∧ Aside0 (Below w.heap.size w wc))
    case first =>
     have H := HC30.out
     clear HC30
     replace H := Option.bind_eq_some_iff.mp H
     obtain ⟨⟨t351, t352⟩, A310, H⟩ := H
     (try dsimp only at H)
     have A31 := Aside0.mk A310
     clear A310
     replace H := Option.bind_eq_some_iff.mp H
     obtain ⟨⟨t353, t354⟩, A320, H⟩ := H
     (try dsimp only at H)
     have A32 := Aside0.mk A320
     clear A320
     by_cases c33 : (!(t351 == t353) || (!(t352 == t354))) = true
     ·
      rw [if_pos c33] at H
      have c33b0 : (!(t351 == t353) || (!(t352 == t354))) = true := c33
      clear c33
      (first | rw [c33b0] | (simp only [i64_w, i32_w]; rw [c33b0]) | skip)
      have H' := Aside0.mk H
      clear H
      try go_wp2
      replace BK343 := kd BK343
      replace BK344 := kd BK344
      replace HB := Aside0.mk (below_drew1 HB.out)
      refine start_ (n := 43) (S := fun w' => w'.cell? ⟨gb343, 0, none⟩ = some (.int .i64 a0_0) ∧ w'.cell? ⟨gb343, 1, none⟩ = some (.int .i64 a0_1) ∧ w'.cell? ⟨gb344, 0, none⟩ = some (.int .i64 a1_0) ∧ w'.cell? ⟨gb344, 1, none⟩ = some (.int .i64 a1_1)) (ds := []) (bA 43 0) (by kernel_rfl) rfl rfl ⟨(blk_cell BK343.out 0).trans rfl, (blk_cell BK343.out 1).trans rfl, (blk_cell BK344.out 0).trans rfl, (blk_cell BK344.out 1).trans rfl⟩ (fun hHeld => ?_); refine with_tabW serinettelaw01_NumberSays.tab3 serinettelaw01_NumberSays.bits3 (fun HT_ HW_ => ?_)
      generalize wc.drew = w34 at BK343 BK344 HB hHeld ⊢
      refine take_ (i := 0) (N := some 26) (v := ?_) (a' := ?_) (bA 43 1) rfl rfl (take_ofW HT_.out HW_.out (by kernel_rfl)) (fun _ _ _ h => h) (Or.inl ⟨by rfl, ?_⟩) hHeld ?_ ?_
      rotate_left
      ·
       rintro w' ⟨s0, s1, s2, s3⟩
       go_simp; with_reducible rfl
      rotate_left
      ·
       simp only [ap]
       rfl
      refine take_ (i := 1) (N := some 27) (v := ?_) (a' := ?_) (bA 43 3) rfl rfl (take_ofW HT_.out HW_.out (by kernel_rfl)) (fun _ _ _ h => h) (Or.inl ⟨by rfl, ?_⟩) hHeld ?_ ?_
      rotate_left
      ·
       rintro w' ⟨s0, s1, s2, s3⟩
       go_simp; with_reducible rfl
      rotate_left
      ·
       simp only [ap]
       rfl
      refine take_ (i := 3) (N := some 29) (v := ?_) (a' := ?_) (bA 43 11) rfl rfl (take_ofW HT_.out HW_.out (by kernel_rfl)) (fun _ _ _ h => h) (Or.inl ⟨by rfl, ?_⟩) hHeld ?_ ?_
      rotate_left
      ·
       rintro w' ⟨s0, s1, s2, s3⟩
       go_simp; with_reducible rfl
      rotate_left
      ·
       simp only [ap]
       rfl
      refine take_ (i := 4) (N := some 30) (v := ?_) (a' := ?_) (bA 43 27) rfl rfl (take_ofW HT_.out HW_.out (by kernel_rfl)) (fun _ _ _ h => h) (Or.inl ⟨by rfl, ?_⟩) hHeld ?_ ?_
      rotate_left
      ·
       rintro w' ⟨s0, s1, s2, s3⟩
       go_simp; with_reducible rfl
      rotate_left
      ·
       simp only [ap]
       rfl
      refine one_ (i := 2) (N := some 28) (bA 43 31) rfl rfl (one_of HT_.out (by kernel_rfl)) (by decide) (fun K hK => ?_)
      refine goes_ Try.func12 (by kernel_rfl) rfl #[.agg #[.int .i64 a0_0, .int .i64 a0_1], .agg #[.int .i64 a1_0, .int .i64 a1_1]] (by rfl) rfl rfl (by (try simp only [mp]); first | done | rfl | (simp only [ld]; rfl)) ?_
      with_reducible refine (ratio_Add.calls kj2 a0_0 a0_1 a1_0 a1_1 t351 t352 _ A31.out).mono ?_
      rintro e w35 ⟨rfl, hb⟩
      refine ⟨_, rfl, ?_⟩
      replace BK343 := kb BK343 hb
      replace BK344 := kb BK344 hb
      replace HB := hs' HB (by repeat first | (with_reducible exact HB.out) | refine bl1 ?_ | (with_reducible refine bset ?_ ‹_›) | exact HB.out) hb
      (try clear hb); (try clear hb2); (try clear hk); (try clear hi)
      refine hK.out _ _ ⟨(blk_cell BK343.out 0).trans rfl, (blk_cell BK343.out 1).trans rfl, (blk_cell BK344.out 0).trans rfl, (blk_cell BK344.out 1).trans rfl⟩ (fun hHeld => ?_)
      clear hK K
      refine norm_ (a' := ?_) ?_ ?_
      rotate_left
      ·
       show Act.put _ (some 28) _ = _
       simp only [ap]; rfl
      refine one_ (i := 5) (N := some 31) (bA 43 63) rfl rfl (one_of HT_.out (by kernel_rfl)) (by decide) (fun K hK => ?_)
      refine goes_ Try.func38 (by kernel_rfl) rfl #[.agg #[.int .i64 a0_0, .int .i64 a0_1], .agg #[.int .i64 a1_0, .int .i64 a1_1]] (by rfl) rfl rfl (by (try simp only [mp]); first | done | rfl | (simp only [ld]; rfl)) ?_
      with_reducible refine (serinetteref01_Add.calls kj2 a0_0 a0_1 a1_0 a1_1 t353 t354 _ A32.out).mono ?_
      rintro e w36 ⟨rfl, hb⟩
      refine ⟨_, rfl, ?_⟩
      replace BK343 := kb BK343 hb
      replace BK344 := kb BK344 hb
      replace HB := hs' HB (by repeat first | (with_reducible exact HB.out) | refine bl1 ?_ | (with_reducible refine bset ?_ ‹_›) | exact HB.out) hb
      (try clear hb); (try clear hb2); (try clear hk); (try clear hi)
      refine hK.out _ _ ⟨(blk_cell BK343.out 0).trans rfl, (blk_cell BK343.out 1).trans rfl, (blk_cell BK344.out 0).trans rfl, (blk_cell BK344.out 1).trans rfl⟩ (fun hHeld => ?_)
      clear hK K
      refine norm_ (a' := ?_) ?_ ?_
      rotate_left
      ·
       show Act.put _ (some 31) _ = _
       simp only [ap]; rfl
      refine pure_ (i := 6) (N := some 32) (v := ?_) (a' := ?_) (bA 43 127) rfl rfl (any_of HT_.out (by kernel_rfl)) (fun _ _ _ h => h) (Or.inl ⟨by rfl, ?_⟩) ?_ ?_
      rotate_left
      ·
       intro w'
       go_simp; with_reducible rfl
      rotate_left
      ·
       simp only [ap]
       rfl
      refine pure_ (i := 7) (N := some 33) (v := ?_) (a' := ?_) (bA 43 255) rfl rfl (any_of HT_.out (by kernel_rfl)) (fun _ _ _ h => h) (Or.inl ⟨by rfl, ?_⟩) ?_ ?_
      rotate_left
      ·
       intro w'
       go_simp; with_reducible rfl
      rotate_left
      ·
       simp only [ap]
       rfl
      refine pure_ (i := 8) (N := some 34) (v := undef) (a' := ?_) (bA 43 511) rfl rfl (any_of HT_.out (by kernel_rfl)) (fun _ _ _ h => h) (Or.inr ⟨by rfl, rfl⟩) ?_ ?_
      rotate_left
      ·
       simp only [ap]
       rfl
      refine pure_ (i := 9) (N := some 35) (v := undef) (a' := ?_) (bA 43 1023) rfl rfl (any_of HT_.out (by kernel_rfl)) (fun _ _ _ h => h) (Or.inr ⟨by rfl, rfl⟩) ?_ ?_
      rotate_left
      ·
       simp only [ap]
       rfl
      refine pure_ (i := 10) (N := some 36) (v := undef) (a' := ?_) (bA 43 2047) rfl rfl (any_of HT_.out (by kernel_rfl)) (fun _ _ _ h => h) (Or.inr ⟨by rfl, rfl⟩) ?_ ?_
      rotate_left
      ·
       simp only [ap]
       rfl
      refine pure_ (i := 11) (N := some 37) (v := undef) (a' := ?_) (bA 43 4095) rfl rfl (any_of HT_.out (by kernel_rfl)) (fun _ _ _ h => h) (Or.inr ⟨by rfl, rfl⟩) ?_ ?_
      rotate_left
      ·
       simp only [ap]
       rfl
      refine pure_ (i := 12) (N := some 38) (v := undef) (a' := ?_) (bA 43 8191) rfl rfl (any_of HT_.out (by kernel_rfl)) (fun _ _ _ h => h) (Or.inr ⟨by rfl, rfl⟩) ?_ ?_
      rotate_left
      ·
       simp only [ap]
       rfl
      refine pure_ (i := 13) (N := some 39) (v := undef) (a' := ?_) (bA 43 16383) rfl rfl (any_of HT_.out (by kernel_rfl)) (fun _ _ _ h => h) (Or.inr ⟨by rfl, rfl⟩) ?_ ?_
      rotate_left
      ·
       simp only [ap]
       rfl
      refine pure_ (i := 14) (N := some 40) (v := undef) (a' := ?_) (bA 43 32767) rfl rfl (any_of HT_.out (by kernel_rfl)) (fun _ _ _ h => h) (Or.inr ⟨by rfl, rfl⟩) ?_ ?_
      rotate_left
      ·
       simp only [ap]
       rfl
      refine pure_ (i := 15) (N := some 41) (v := ?_) (a' := ?_) (bA 43 65535) rfl rfl (any_of HT_.out (by kernel_rfl)) (fun _ _ _ h => h) (Or.inl ⟨by rfl, ?_⟩) ?_ ?_
      rotate_left
      ·
       intro w'
       go_simp; with_reducible rfl
      rotate_left
      ·
       simp only [ap]
       rfl
      refine pure_ (i := 16) (N := some 42) (v := ?_) (a' := ?_) (bA 43 131071) rfl rfl (any_of HT_.out (by kernel_rfl)) (fun _ _ _ h => h) (Or.inl ⟨by rfl, ?_⟩) ?_ ?_
      rotate_left
      ·
       intro w'
       go_simp; with_reducible rfl
      rotate_left
      ·
       simp only [ap]
       rfl
      refine pure_ (i := 17) (N := some 43) (v := undef) (a' := ?_) (bA 43 262143) rfl rfl (any_of HT_.out (by kernel_rfl)) (fun _ _ _ h => h) (Or.inr ⟨by rfl, rfl⟩) ?_ ?_
      rotate_left
      ·
       simp only [ap]
       rfl
      refine pure_ (i := 18) (N := some 44) (v := undef) (a' := ?_) (bA 43 524287) rfl rfl (any_of HT_.out (by kernel_rfl)) (fun _ _ _ h => h) (Or.inr ⟨by rfl, rfl⟩) ?_ ?_
      rotate_left
      ·
       simp only [ap]
       rfl
      refine pure_ (i := 19) (N := some 45) (v := undef) (a' := ?_) (bA 43 1048575) rfl rfl (any_of HT_.out (by kernel_rfl)) (fun _ _ _ h => h) (Or.inr ⟨by rfl, rfl⟩) ?_ ?_
      rotate_left
      ·
       simp only [ap]
       rfl
      refine pure_ (i := 20) (N := some 46) (v := undef) (a' := ?_) (bA 43 2097151) rfl rfl (any_of HT_.out (by kernel_rfl)) (fun _ _ _ h => h) (Or.inr ⟨by rfl, rfl⟩) ?_ ?_
      rotate_left
      ·
       simp only [ap]
       rfl
      refine pure_ (i := 21) (N := some 47) (v := undef) (a' := ?_) (bA 43 4194303) rfl rfl (any_of HT_.out (by kernel_rfl)) (fun _ _ _ h => h) (Or.inr ⟨by rfl, rfl⟩) ?_ ?_
      rotate_left
      ·
       simp only [ap]
       rfl
      refine pure_ (i := 22) (N := some 48) (v := undef) (a' := ?_) (bA 43 8388607) rfl rfl (any_of HT_.out (by kernel_rfl)) (fun _ _ _ h => h) (Or.inr ⟨by rfl, rfl⟩) ?_ ?_
      rotate_left
      ·
       simp only [ap]
       rfl
      refine pure_ (i := 23) (N := some 49) (v := undef) (a' := ?_) (bA 43 16777215) rfl rfl (any_of HT_.out (by kernel_rfl)) (fun _ _ _ h => h) (Or.inr ⟨by rfl, rfl⟩) ?_ ?_
      rotate_left
      ·
       simp only [ap]
       rfl
      refine pure_ (i := 24) (N := some 50) (v := ?_) (a' := ?_) (bA 43 33554431) rfl rfl (any_of HT_.out (by kernel_rfl)) (fun _ _ _ h => h) (Or.inl ⟨by rfl, ?_⟩) ?_ ?_
      rotate_left
      ·
       intro w'
       go_simp; with_reducible rfl
      rotate_left
      ·
       simp only [ap]
       rfl
      refine pure_ (i := 25) (N := some 51) (v := ?_) (a' := ?_) (bA 43 67108863) rfl rfl (any_of HT_.out (by kernel_rfl)) (fun _ _ _ h => h) (Or.inl ⟨by rfl, ?_⟩) ?_ ?_
      rotate_left
      ·
       intro w'
       go_simp; with_reducible rfl
      rotate_left
      ·
       simp only [ap]
       rfl
      refine pure_ (i := 26) (N := some 52) (v := undef) (a' := ?_) (bA 43 134217727) rfl rfl (any_of HT_.out (by kernel_rfl)) (fun _ _ _ h => h) (Or.inr ⟨by rfl, rfl⟩) ?_ ?_
      rotate_left
      ·
       simp only [ap]
       rfl
      refine pure_ (i := 27) (N := some 53) (v := undef) (a' := ?_) (bA 43 268435455) rfl rfl (any_of HT_.out (by kernel_rfl)) (fun _ _ _ h => h) (Or.inr ⟨by rfl, rfl⟩) ?_ ?_
      rotate_left
      ·
       simp only [ap]
       rfl
      refine pure_ (i := 28) (N := some 54) (v := undef) (a' := ?_) (bA 43 536870911) rfl rfl (any_of HT_.out (by kernel_rfl)) (fun _ _ _ h => h) (Or.inr ⟨by rfl, rfl⟩) ?_ ?_
      rotate_left
      ·
       simp only [ap]
       rfl
      refine pure_ (i := 29) (N := some 55) (v := undef) (a' := ?_) (bA 43 1073741823) rfl rfl (any_of HT_.out (by kernel_rfl)) (fun _ _ _ h => h) (Or.inr ⟨by rfl, rfl⟩) ?_ ?_
      rotate_left
      ·
       simp only [ap]
       rfl
      refine pure_ (i := 30) (N := some 56) (v := undef) (a' := ?_) (bA 43 2147483647) rfl rfl (any_of HT_.out (by kernel_rfl)) (fun _ _ _ h => h) (Or.inr ⟨by rfl, rfl⟩) ?_ ?_
      rotate_left
      ·
       simp only [ap]
       rfl
      refine pure_ (i := 31) (N := some 57) (v := undef) (a' := ?_) (bA 43 4294967295) rfl rfl (any_of HT_.out (by kernel_rfl)) (fun _ _ _ h => h) (Or.inr ⟨by rfl, rfl⟩) ?_ ?_
      rotate_left
      ·
       simp only [ap]
       rfl
      refine pure_ (i := 32) (N := some 58) (v := undef) (a' := ?_) (bA 43 8589934591) rfl rfl (any_of HT_.out (by kernel_rfl)) (fun _ _ _ h => h) (Or.inr ⟨by rfl, rfl⟩) ?_ ?_
      rotate_left
      ·
       simp only [ap]
       rfl
      refine pure_ (i := 33) (N := some 59) (v := ?_) (a' := ?_) (bA 43 17179869183) rfl rfl (any_of HT_.out (by kernel_rfl)) (fun _ _ _ h => h) (Or.inl ⟨by rfl, ?_⟩) ?_ ?_
      rotate_left
      ·
       intro w'
       go_simp; with_reducible rfl
      rotate_left
      ·
       simp only [ap]
       rfl
      refine pure_ (i := 34) (N := some 60) (v := ?_) (a' := ?_) (bA 43 34359738367) rfl rfl (any_of HT_.out (by kernel_rfl)) (fun _ _ _ h => h) (Or.inl ⟨by rfl, ?_⟩) ?_ ?_
      rotate_left
      ·
       intro w'
       go_simp; with_reducible rfl
      rotate_left
      ·
       simp only [ap]
       rfl
      refine pure_ (i := 35) (N := some 61) (v := undef) (a' := ?_) (bA 43 68719476735) rfl rfl (any_of HT_.out (by kernel_rfl)) (fun _ _ _ h => h) (Or.inr ⟨by rfl, rfl⟩) ?_ ?_
      rotate_left
      ·
       simp only [ap]
       rfl
      refine pure_ (i := 36) (N := some 62) (v := undef) (a' := ?_) (bA 43 137438953471) rfl rfl (any_of HT_.out (by kernel_rfl)) (fun _ _ _ h => h) (Or.inr ⟨by rfl, rfl⟩) ?_ ?_
      rotate_left
      ·
       simp only [ap]
       rfl
      refine pure_ (i := 37) (N := some 63) (v := undef) (a' := ?_) (bA 43 274877906943) rfl rfl (any_of HT_.out (by kernel_rfl)) (fun _ _ _ h => h) (Or.inr ⟨by rfl, rfl⟩) ?_ ?_
      rotate_left
      ·
       simp only [ap]
       rfl
      refine pure_ (i := 38) (N := some 64) (v := undef) (a' := ?_) (bA 43 549755813887) rfl rfl (any_of HT_.out (by kernel_rfl)) (fun _ _ _ h => h) (Or.inr ⟨by rfl, rfl⟩) ?_ ?_
      rotate_left
      ·
       simp only [ap]
       rfl
      refine pure_ (i := 39) (N := some 65) (v := undef) (a' := ?_) (bA 43 1099511627775) rfl rfl (any_of HT_.out (by kernel_rfl)) (fun _ _ _ h => h) (Or.inr ⟨by rfl, rfl⟩) ?_ ?_
      rotate_left
      ·
       simp only [ap]
       rfl
      refine pure_ (i := 40) (N := some 66) (v := undef) (a' := ?_) (bA 43 2199023255551) rfl rfl (any_of HT_.out (by kernel_rfl)) (fun _ _ _ h => h) (Or.inr ⟨by rfl, rfl⟩) ?_ ?_
      rotate_left
      ·
       simp only [ap]
       rfl
      refine pure_ (i := 41) (N := some 67) (v := undef) (a' := ?_) (bA 43 4398046511103) rfl rfl (any_of HT_.out (by kernel_rfl)) (fun _ _ _ h => h) (Or.inr ⟨by rfl, rfl⟩) ?_ ?_
      rotate_left
      ·
       simp only [ap]
       rfl
      refine pure_ (i := 42) (N := some 68) (v := ?_) (a' := ?_) (bA 43 8796093022207) rfl rfl (any_of HT_.out (by kernel_rfl)) (fun _ _ _ h => h) (Or.inl ⟨by rfl, ?_⟩) ?_ ?_
      rotate_left
      ·
       intro w'
       go_simp; with_reducible rfl
      rotate_left
      ·
       simp only [ap]
       rfl
      refine done_ (done_of HT_.out (by kernel_rfl)) ?_
      try go_wp2
      go_meet
      case rel => exact ⟨_, (true), (by first | rfl | (simp; done) | (simp [*]; done)), H', ⟨by have := HJ2.out; first | omega | exact Nat.le_refl _⟩, ⟨by refine bk ?_; exact BK343.out⟩, ⟨by refine bk ?_; exact BK344.out⟩, ⟨by repeat first | exact HB.out | refine bset ?_ ‹_› | apply below_alloc | apply pw_below_drewN | apply below_drew1⟩⟩
     ·
      rw [if_neg c33] at H
      have c33b0 : (!(t351 == t353) || (!(t352 == t354))) = false := by simpa using c33
      clear c33
      (first | rw [c33b0] | (simp only [i64_w, i32_w]; rw [c33b0]) | skip)
      replace H := Option.bind_eq_some_iff.mp H
      obtain ⟨⟨t355, t356⟩, A370, H⟩ := H
      (try dsimp only at H)
      have A37 := Aside0.mk A370
      clear A370
      replace H := Option.bind_eq_some_iff.mp H
      obtain ⟨⟨t357, t358⟩, A380, H⟩ := H
      (try dsimp only at H)
      have A38 := Aside0.mk A380
      clear A380
      by_cases c39 : (!(t355 == t357) || (!(t356 == t358))) = true
      ·
       rw [if_pos c39] at H
       have c39b0 : (!(t355 == t357) || (!(t356 == t358))) = true := c39
       clear c39
       have H' := Aside0.mk H
       clear H
       try go_wp2
       replace BK343 := kd BK343
       replace BK344 := kd BK344
       replace HB := Aside0.mk (below_drew1 HB.out)
       refine start_ (n := 43) (S := fun w' => w'.cell? ⟨gb343, 0, none⟩ = some (.int .i64 a0_0) ∧ w'.cell? ⟨gb343, 1, none⟩ = some (.int .i64 a0_1) ∧ w'.cell? ⟨gb344, 0, none⟩ = some (.int .i64 a1_0) ∧ w'.cell? ⟨gb344, 1, none⟩ = some (.int .i64 a1_1)) (ds := []) (bA 43 0) (by kernel_rfl) rfl rfl ⟨(blk_cell BK343.out 0).trans rfl, (blk_cell BK343.out 1).trans rfl, (blk_cell BK344.out 0).trans rfl, (blk_cell BK344.out 1).trans rfl⟩ (fun hHeld => ?_); refine with_tabW serinettelaw01_NumberSays.tab3 serinettelaw01_NumberSays.bits3 (fun HT_ HW_ => ?_)
       generalize wc.drew = w40 at BK343 BK344 HB hHeld ⊢
       refine take_ (i := 0) (N := some 26) (v := ?_) (a' := ?_) (bA 43 1) rfl rfl (take_ofW HT_.out HW_.out (by kernel_rfl)) (fun _ _ _ h => h) (Or.inl ⟨by rfl, ?_⟩) hHeld ?_ ?_
       rotate_left
       ·
        rintro w' ⟨s0, s1, s2, s3⟩
        go_simp; with_reducible rfl
       rotate_left
       ·
        simp only [ap]
        rfl
       refine take_ (i := 1) (N := some 27) (v := ?_) (a' := ?_) (bA 43 3) rfl rfl (take_ofW HT_.out HW_.out (by kernel_rfl)) (fun _ _ _ h => h) (Or.inl ⟨by rfl, ?_⟩) hHeld ?_ ?_
       rotate_left
       ·
        rintro w' ⟨s0, s1, s2, s3⟩
        go_simp; with_reducible rfl
       rotate_left
       ·
        simp only [ap]
        rfl
       refine take_ (i := 3) (N := some 29) (v := ?_) (a' := ?_) (bA 43 11) rfl rfl (take_ofW HT_.out HW_.out (by kernel_rfl)) (fun _ _ _ h => h) (Or.inl ⟨by rfl, ?_⟩) hHeld ?_ ?_
       rotate_left
       ·
        rintro w' ⟨s0, s1, s2, s3⟩
        go_simp; with_reducible rfl
       rotate_left
       ·
        simp only [ap]
        rfl
       refine take_ (i := 4) (N := some 30) (v := ?_) (a' := ?_) (bA 43 27) rfl rfl (take_ofW HT_.out HW_.out (by kernel_rfl)) (fun _ _ _ h => h) (Or.inl ⟨by rfl, ?_⟩) hHeld ?_ ?_
       rotate_left
       ·
        rintro w' ⟨s0, s1, s2, s3⟩
        go_simp; with_reducible rfl
       rotate_left
       ·
        simp only [ap]
        rfl
       refine one_ (i := 2) (N := some 28) (bA 43 31) rfl rfl (one_of HT_.out (by kernel_rfl)) (by decide) (fun K hK => ?_)
       refine goes_ Try.func12 (by kernel_rfl) rfl #[.agg #[.int .i64 a0_0, .int .i64 a0_1], .agg #[.int .i64 a1_0, .int .i64 a1_1]] (by rfl) rfl rfl (by (try simp only [mp]); first | done | rfl | (simp only [ld]; rfl)) ?_
       with_reducible refine (ratio_Add.calls kj2 a0_0 a0_1 a1_0 a1_1 t351 t352 _ A31.out).mono ?_
       rintro e w41 ⟨rfl, hb⟩
       refine ⟨_, rfl, ?_⟩
       replace BK343 := kb BK343 hb
       replace BK344 := kb BK344 hb
       replace HB := hs' HB (by repeat first | (with_reducible exact HB.out) | refine bl1 ?_ | (with_reducible refine bset ?_ ‹_›) | exact HB.out) hb
       (try clear hb); (try clear hb2); (try clear hk); (try clear hi)
       refine hK.out _ _ ⟨(blk_cell BK343.out 0).trans rfl, (blk_cell BK343.out 1).trans rfl, (blk_cell BK344.out 0).trans rfl, (blk_cell BK344.out 1).trans rfl⟩ (fun hHeld => ?_)
       clear hK K
       refine norm_ (a' := ?_) ?_ ?_
       rotate_left
       ·
        show Act.put _ (some 28) _ = _
        simp only [ap]; rfl
       refine one_ (i := 5) (N := some 31) (bA 43 63) rfl rfl (one_of HT_.out (by kernel_rfl)) (by decide) (fun K hK => ?_)
       refine goes_ Try.func38 (by kernel_rfl) rfl #[.agg #[.int .i64 a0_0, .int .i64 a0_1], .agg #[.int .i64 a1_0, .int .i64 a1_1]] (by rfl) rfl rfl (by (try simp only [mp]); first | done | rfl | (simp only [ld]; rfl)) ?_
       with_reducible refine (serinetteref01_Add.calls kj2 a0_0 a0_1 a1_0 a1_1 t353 t354 _ A32.out).mono ?_
       rintro e w42 ⟨rfl, hb⟩
       refine ⟨_, rfl, ?_⟩
       replace BK343 := kb BK343 hb
       replace BK344 := kb BK344 hb
       replace HB := hs' HB (by repeat first | (with_reducible exact HB.out) | refine bl1 ?_ | (with_reducible refine bset ?_ ‹_›) | exact HB.out) hb
       (try clear hb); (try clear hb2); (try clear hk); (try clear hi)
       refine hK.out _ _ ⟨(blk_cell BK343.out 0).trans rfl, (blk_cell BK343.out 1).trans rfl, (blk_cell BK344.out 0).trans rfl, (blk_cell BK344.out 1).trans rfl⟩ (fun hHeld => ?_)
       clear hK K
       refine norm_ (a' := ?_) ?_ ?_
       rotate_left
       ·
        show Act.put _ (some 31) _ = _
        simp only [ap]; rfl
       refine pure_ (i := 6) (N := some 32) (v := ?_) (a' := ?_) (bA 43 127) rfl rfl (any_of HT_.out (by kernel_rfl)) (fun _ _ _ h => h) (Or.inl ⟨by rfl, ?_⟩) ?_ ?_
       rotate_left
       ·
        intro w'
        go_simp; with_reducible rfl
       rotate_left
       ·
        simp only [ap]
        rfl
       refine pure_ (i := 7) (N := some 33) (v := ?_) (a' := ?_) (bA 43 255) rfl rfl (any_of HT_.out (by kernel_rfl)) (fun _ _ _ h => h) (Or.inl ⟨by rfl, ?_⟩) ?_ ?_
       rotate_left
       ·
        intro w'
        go_simp; with_reducible rfl
       rotate_left
       ·
        simp only [ap]
        rfl
       refine take_ (i := 8) (N := some 34) (v := ?_) (a' := ?_) (bA 43 511) rfl rfl (take_ofW HT_.out HW_.out (by kernel_rfl)) (fun _ _ _ h => h) (Or.inl ⟨by rfl, ?_⟩) hHeld ?_ ?_
       rotate_left
       ·
        rintro w' ⟨s0, s1, s2, s3⟩
        go_simp; with_reducible rfl
       rotate_left
       ·
        simp only [ap]
        rfl
       refine take_ (i := 9) (N := some 35) (v := ?_) (a' := ?_) (bA 43 1023) rfl rfl (take_ofW HT_.out HW_.out (by kernel_rfl)) (fun _ _ _ h => h) (Or.inl ⟨by rfl, ?_⟩) hHeld ?_ ?_
       rotate_left
       ·
        rintro w' ⟨s0, s1, s2, s3⟩
        go_simp; with_reducible rfl
       rotate_left
       ·
        simp only [ap]
        rfl
       refine take_ (i := 11) (N := some 37) (v := ?_) (a' := ?_) (bA 43 3071) rfl rfl (take_ofW HT_.out HW_.out (by kernel_rfl)) (fun _ _ _ h => h) (Or.inl ⟨by rfl, ?_⟩) hHeld ?_ ?_
       rotate_left
       ·
        rintro w' ⟨s0, s1, s2, s3⟩
        go_simp; with_reducible rfl
       rotate_left
       ·
        simp only [ap]
        rfl
       refine take_ (i := 12) (N := some 38) (v := ?_) (a' := ?_) (bA 43 7167) rfl rfl (take_ofW HT_.out HW_.out (by kernel_rfl)) (fun _ _ _ h => h) (Or.inl ⟨by rfl, ?_⟩) hHeld ?_ ?_
       rotate_left
       ·
        rintro w' ⟨s0, s1, s2, s3⟩
        go_simp; with_reducible rfl
       rotate_left
       ·
        simp only [ap]
        rfl
       refine one_ (i := 10) (N := some 36) (bA 43 8191) rfl rfl (one_of HT_.out (by kernel_rfl)) (by decide) (fun K hK => ?_)
       refine goes_ Try.func32 (by kernel_rfl) rfl #[.agg #[.int .i64 a0_0, .int .i64 a0_1], .agg #[.int .i64 a1_0, .int .i64 a1_1]] (by rfl) rfl rfl (by (try simp only [mp]); first | done | rfl | (simp only [ld]; rfl)) ?_
       with_reducible refine (ratio_Sub.calls kj2 a0_0 a0_1 a1_0 a1_1 t355 t356 _ A37.out).mono ?_
       rintro e w43 ⟨rfl, hb⟩
       refine ⟨_, rfl, ?_⟩
       replace BK343 := kb BK343 hb
       replace BK344 := kb BK344 hb
       replace HB := hs' HB (by repeat first | (with_reducible exact HB.out) | refine bl1 ?_ | (with_reducible refine bset ?_ ‹_›) | exact HB.out) hb
       (try clear hb); (try clear hb2); (try clear hk); (try clear hi)
       refine hK.out _ _ ⟨(blk_cell BK343.out 0).trans rfl, (blk_cell BK343.out 1).trans rfl, (blk_cell BK344.out 0).trans rfl, (blk_cell BK344.out 1).trans rfl⟩ (fun hHeld => ?_)
       clear hK K
       refine norm_ (a' := ?_) ?_ ?_
       rotate_left
       ·
        show Act.put _ (some 36) _ = _
        simp only [ap]; rfl
       refine one_ (i := 13) (N := some 39) (bA 43 16383) rfl rfl (one_of HT_.out (by kernel_rfl)) (by decide) (fun K hK => ?_)
       refine goes_ Try.func39 (by kernel_rfl) rfl #[.agg #[.int .i64 a0_0, .int .i64 a0_1], .agg #[.int .i64 a1_0, .int .i64 a1_1]] (by rfl) rfl rfl (by (try simp only [mp]); first | done | rfl | (simp only [ld]; rfl)) ?_
       with_reducible refine (serinetteref01_Sub.calls kj2 a0_0 a0_1 a1_0 a1_1 t357 t358 _ A38.out).mono ?_
       rintro e w44 ⟨rfl, hb⟩
       refine ⟨_, rfl, ?_⟩
       replace BK343 := kb BK343 hb
       replace BK344 := kb BK344 hb
       replace HB := hs' HB (by repeat first | (with_reducible exact HB.out) | refine bl1 ?_ | (with_reducible refine bset ?_ ‹_›) | exact HB.out) hb
       (try clear hb); (try clear hb2); (try clear hk); (try clear hi)
       refine hK.out _ _ ⟨(blk_cell BK343.out 0).trans rfl, (blk_cell BK343.out 1).trans rfl, (blk_cell BK344.out 0).trans rfl, (blk_cell BK344.out 1).trans rfl⟩ (fun hHeld => ?_)
       clear hK K
       refine norm_ (a' := ?_) ?_ ?_
       rotate_left
       ·
        show Act.put _ (some 39) _ = _
        simp only [ap]; rfl
       refine pure_ (i := 14) (N := some 40) (v := ?_) (a' := ?_) (bA 43 32767) rfl rfl (any_of HT_.out (by kernel_rfl)) (fun _ _ _ h => h) (Or.inl ⟨by rfl, ?_⟩) ?_ ?_
       rotate_left
       ·
        intro w'
        go_simp; with_reducible rfl
       rotate_left
       ·
        simp only [ap]
        rfl
       refine pure_ (i := 15) (N := some 41) (v := ?_) (a' := ?_) (bA 43 65535) rfl rfl (any_of HT_.out (by kernel_rfl)) (fun _ _ _ h => h) (Or.inl ⟨by rfl, ?_⟩) ?_ ?_
       rotate_left
       ·
        intro w'
        go_simp; with_reducible rfl
       rotate_left
       ·
        simp only [ap]
        rfl
       refine pure_ (i := 16) (N := some 42) (v := ?_) (a' := ?_) (bA 43 131071) rfl rfl (any_of HT_.out (by kernel_rfl)) (fun _ _ _ h => h) (Or.inl ⟨by rfl, ?_⟩) ?_ ?_
       rotate_left
       ·
        intro w'
        go_simp; with_reducible rfl
       rotate_left
       ·
        simp only [ap]
        rfl
       refine pure_ (i := 17) (N := some 43) (v := undef) (a' := ?_) (bA 43 262143) rfl rfl (any_of HT_.out (by kernel_rfl)) (fun _ _ _ h => h) (Or.inr ⟨by rfl, rfl⟩) ?_ ?_
       rotate_left
       ·
        simp only [ap]
        rfl
       refine pure_ (i := 18) (N := some 44) (v := undef) (a' := ?_) (bA 43 524287) rfl rfl (any_of HT_.out (by kernel_rfl)) (fun _ _ _ h => h) (Or.inr ⟨by rfl, rfl⟩) ?_ ?_
       rotate_left
       ·
        simp only [ap]
        rfl
       refine pure_ (i := 19) (N := some 45) (v := undef) (a' := ?_) (bA 43 1048575) rfl rfl (any_of HT_.out (by kernel_rfl)) (fun _ _ _ h => h) (Or.inr ⟨by rfl, rfl⟩) ?_ ?_
       rotate_left
       ·
        simp only [ap]
        rfl
       refine pure_ (i := 20) (N := some 46) (v := undef) (a' := ?_) (bA 43 2097151) rfl rfl (any_of HT_.out (by kernel_rfl)) (fun _ _ _ h => h) (Or.inr ⟨by rfl, rfl⟩) ?_ ?_
       rotate_left
       ·
        simp only [ap]
        rfl
       refine pure_ (i := 21) (N := some 47) (v := undef) (a' := ?_) (bA 43 4194303) rfl rfl (any_of HT_.out (by kernel_rfl)) (fun _ _ _ h => h) (Or.inr ⟨by rfl, rfl⟩) ?_ ?_
       rotate_left
       ·
        simp only [ap]
        rfl
       refine pure_ (i := 22) (N := some 48) (v := undef) (a' := ?_) (bA 43 8388607) rfl rfl (any_of HT_.out (by kernel_rfl)) (fun _ _ _ h => h) (Or.inr ⟨by rfl, rfl⟩) ?_ ?_
       rotate_left
       ·
        simp only [ap]
        rfl
       refine pure_ (i := 23) (N := some 49) (v := undef) (a' := ?_) (bA 43 16777215) rfl rfl (any_of HT_.out (by kernel_rfl)) (fun _ _ _ h => h) (Or.inr ⟨by rfl, rfl⟩) ?_ ?_
       rotate_left
       ·
        simp only [ap]
        rfl
       refine pure_ (i := 24) (N := some 50) (v := ?_) (a' := ?_) (bA 43 33554431) rfl rfl (any_of HT_.out (by kernel_rfl)) (fun _ _ _ h => h) (Or.inl ⟨by rfl, ?_⟩) ?_ ?_
       rotate_left
       ·
        intro w'
        go_simp; with_reducible rfl
       rotate_left
       ·
        simp only [ap]
        rfl
       refine pure_ (i := 25) (N := some 51) (v := ?_) (a' := ?_) (bA 43 67108863) rfl rfl (any_of HT_.out (by kernel_rfl)) (fun _ _ _ h => h) (Or.inl ⟨by rfl, ?_⟩) ?_ ?_
       rotate_left
       ·
        intro w'
        go_simp; with_reducible rfl
       rotate_left
       ·
        simp only [ap]
        rfl
       refine pure_ (i := 26) (N := some 52) (v := undef) (a' := ?_) (bA 43 134217727) rfl rfl (any_of HT_.out (by kernel_rfl)) (fun _ _ _ h => h) (Or.inr ⟨by rfl, rfl⟩) ?_ ?_
       rotate_left
       ·
        simp only [ap]
        rfl
       refine pure_ (i := 27) (N := some 53) (v := undef) (a' := ?_) (bA 43 268435455) rfl rfl (any_of HT_.out (by kernel_rfl)) (fun _ _ _ h => h) (Or.inr ⟨by rfl, rfl⟩) ?_ ?_
       rotate_left
       ·
        simp only [ap]
        rfl
       refine pure_ (i := 28) (N := some 54) (v := undef) (a' := ?_) (bA 43 536870911) rfl rfl (any_of HT_.out (by kernel_rfl)) (fun _ _ _ h => h) (Or.inr ⟨by rfl, rfl⟩) ?_ ?_
       rotate_left
       ·
        simp only [ap]
        rfl
       refine pure_ (i := 29) (N := some 55) (v := undef) (a' := ?_) (bA 43 1073741823) rfl rfl (any_of HT_.out (by kernel_rfl)) (fun _ _ _ h => h) (Or.inr ⟨by rfl, rfl⟩) ?_ ?_
       rotate_left
       ·
        simp only [ap]
        rfl
       refine pure_ (i := 30) (N := some 56) (v := undef) (a' := ?_) (bA 43 2147483647) rfl rfl (any_of HT_.out (by kernel_rfl)) (fun _ _ _ h => h) (Or.inr ⟨by rfl, rfl⟩) ?_ ?_
       rotate_left
       ·
        simp only [ap]
        rfl
       refine pure_ (i := 31) (N := some 57) (v := undef) (a' := ?_) (bA 43 4294967295) rfl rfl (any_of HT_.out (by kernel_rfl)) (fun _ _ _ h => h) (Or.inr ⟨by rfl, rfl⟩) ?_ ?_
       rotate_left
       ·
        simp only [ap]
        rfl
       refine pure_ (i := 32) (N := some 58) (v := undef) (a' := ?_) (bA 43 8589934591) rfl rfl (any_of HT_.out (by kernel_rfl)) (fun _ _ _ h => h) (Or.inr ⟨by rfl, rfl⟩) ?_ ?_
       rotate_left
       ·
        simp only [ap]
        rfl
       refine pure_ (i := 33) (N := some 59) (v := ?_) (a' := ?_) (bA 43 17179869183) rfl rfl (any_of HT_.out (by kernel_rfl)) (fun _ _ _ h => h) (Or.inl ⟨by rfl, ?_⟩) ?_ ?_
       rotate_left
       ·
        intro w'
        go_simp; with_reducible rfl
       rotate_left
       ·
        simp only [ap]
        rfl
       refine pure_ (i := 34) (N := some 60) (v := ?_) (a' := ?_) (bA 43 34359738367) rfl rfl (any_of HT_.out (by kernel_rfl)) (fun _ _ _ h => h) (Or.inl ⟨by rfl, ?_⟩) ?_ ?_
       rotate_left
       ·
        intro w'
        go_simp; with_reducible rfl
       rotate_left
       ·
        simp only [ap]
        rfl
       refine pure_ (i := 35) (N := some 61) (v := undef) (a' := ?_) (bA 43 68719476735) rfl rfl (any_of HT_.out (by kernel_rfl)) (fun _ _ _ h => h) (Or.inr ⟨by rfl, rfl⟩) ?_ ?_
       rotate_left
       ·
        simp only [ap]
        rfl
       refine pure_ (i := 36) (N := some 62) (v := undef) (a' := ?_) (bA 43 137438953471) rfl rfl (any_of HT_.out (by kernel_rfl)) (fun _ _ _ h => h) (Or.inr ⟨by rfl, rfl⟩) ?_ ?_
       rotate_left
       ·
        simp only [ap]
        rfl
       refine pure_ (i := 37) (N := some 63) (v := undef) (a' := ?_) (bA 43 274877906943) rfl rfl (any_of HT_.out (by kernel_rfl)) (fun _ _ _ h => h) (Or.inr ⟨by rfl, rfl⟩) ?_ ?_
       rotate_left
       ·
        simp only [ap]
        rfl
       refine pure_ (i := 38) (N := some 64) (v := undef) (a' := ?_) (bA 43 549755813887) rfl rfl (any_of HT_.out (by kernel_rfl)) (fun _ _ _ h => h) (Or.inr ⟨by rfl, rfl⟩) ?_ ?_
       rotate_left
       ·
        simp only [ap]
        rfl
       refine pure_ (i := 39) (N := some 65) (v := undef) (a' := ?_) (bA 43 1099511627775) rfl rfl (any_of HT_.out (by kernel_rfl)) (fun _ _ _ h => h) (Or.inr ⟨by rfl, rfl⟩) ?_ ?_
       rotate_left
       ·
        simp only [ap]
        rfl
       refine pure_ (i := 40) (N := some 66) (v := undef) (a' := ?_) (bA 43 2199023255551) rfl rfl (any_of HT_.out (by kernel_rfl)) (fun _ _ _ h => h) (Or.inr ⟨by rfl, rfl⟩) ?_ ?_
       rotate_left
       ·
        simp only [ap]
        rfl
       refine pure_ (i := 41) (N := some 67) (v := undef) (a' := ?_) (bA 43 4398046511103) rfl rfl (any_of HT_.out (by kernel_rfl)) (fun _ _ _ h => h) (Or.inr ⟨by rfl, rfl⟩) ?_ ?_
       rotate_left
       ·
        simp only [ap]
        rfl
       refine pure_ (i := 42) (N := some 68) (v := ?_) (a' := ?_) (bA 43 8796093022207) rfl rfl (any_of HT_.out (by kernel_rfl)) (fun _ _ _ h => h) (Or.inl ⟨by rfl, ?_⟩) ?_ ?_
       rotate_left
       ·
        intro w'
        go_simp; with_reducible rfl
       rotate_left
       ·
        simp only [ap]
        rfl
       refine done_ (done_of HT_.out (by kernel_rfl)) ?_
       try go_wp2
       go_meet
       case rel => exact ⟨_, (true), (by first | rfl | (simp; done) | (simp [*]; done)), H', ⟨by have := HJ2.out; first | omega | exact Nat.le_refl _⟩, ⟨by refine bk ?_; exact BK343.out⟩, ⟨by refine bk ?_; exact BK344.out⟩, ⟨by repeat first | exact HB.out | refine bset ?_ ‹_› | apply below_alloc | apply pw_below_drewN | apply below_drew1⟩⟩
      ·
       rw [if_neg c39] at H
       have c39b0 : (!(t355 == t357) || (!(t356 == t358))) = false := by simpa using c39
       clear c39
       replace H := Option.bind_eq_some_iff.mp H
       obtain ⟨⟨t359, t360⟩, A450, H⟩ := H
       (try dsimp only at H)
       have A45 := Aside0.mk A450
       clear A450
       replace H := Option.bind_eq_some_iff.mp H
       obtain ⟨⟨t361, t362⟩, A460, H⟩ := H
       (try dsimp only at H)
       have A46 := Aside0.mk A460
       clear A460
       by_cases c47 : (!(t359 == t361) || (!(t360 == t362))) = true
       ·
        rw [if_pos c47] at H
        have c47b0 : (!(t359 == t361) || (!(t360 == t362))) = true := c47
        clear c47
        have H' := Aside0.mk H
        clear H
        try go_wp2
        replace BK343 := kd BK343
        replace BK344 := kd BK344
        replace HB := Aside0.mk (below_drew1 HB.out)
        refine start_ (n := 43) (S := fun w' => w'.cell? ⟨gb343, 0, none⟩ = some (.int .i64 a0_0) ∧ w'.cell? ⟨gb343, 1, none⟩ = some (.int .i64 a0_1) ∧ w'.cell? ⟨gb344, 0, none⟩ = some (.int .i64 a1_0) ∧ w'.cell? ⟨gb344, 1, none⟩ = some (.int .i64 a1_1)) (ds := []) (bA 43 0) (by kernel_rfl) rfl rfl ⟨(blk_cell BK343.out 0).trans rfl, (blk_cell BK343.out 1).trans rfl, (blk_cell BK344.out 0).trans rfl, (blk_cell BK344.out 1).trans rfl⟩ (fun hHeld => ?_); refine with_tabW serinettelaw01_NumberSays.tab3 serinettelaw01_NumberSays.bits3 (fun HT_ HW_ => ?_)
        generalize wc.drew = w48 at BK343 BK344 HB hHeld ⊢
        refine take_ (i := 0) (N := some 26) (v := ?_) (a' := ?_) (bA 43 1) rfl rfl (take_ofW HT_.out HW_.out (by kernel_rfl)) (fun _ _ _ h => h) (Or.inl ⟨by rfl, ?_⟩) hHeld ?_ ?_
        rotate_left
        ·
         rintro w' ⟨s0, s1, s2, s3⟩
         go_simp; with_reducible rfl
        rotate_left
        ·
         simp only [ap]
         rfl
        refine take_ (i := 1) (N := some 27) (v := ?_) (a' := ?_) (bA 43 3) rfl rfl (take_ofW HT_.out HW_.out (by kernel_rfl)) (fun _ _ _ h => h) (Or.inl ⟨by rfl, ?_⟩) hHeld ?_ ?_
        rotate_left
        ·
         rintro w' ⟨s0, s1, s2, s3⟩
         go_simp; with_reducible rfl
        rotate_left
        ·
         simp only [ap]
         rfl
        refine take_ (i := 3) (N := some 29) (v := ?_) (a' := ?_) (bA 43 11) rfl rfl (take_ofW HT_.out HW_.out (by kernel_rfl)) (fun _ _ _ h => h) (Or.inl ⟨by rfl, ?_⟩) hHeld ?_ ?_
        rotate_left
        ·
         rintro w' ⟨s0, s1, s2, s3⟩
         go_simp; with_reducible rfl
        rotate_left
        ·
         simp only [ap]
         rfl
        refine take_ (i := 4) (N := some 30) (v := ?_) (a' := ?_) (bA 43 27) rfl rfl (take_ofW HT_.out HW_.out (by kernel_rfl)) (fun _ _ _ h => h) (Or.inl ⟨by rfl, ?_⟩) hHeld ?_ ?_
        rotate_left
        ·
         rintro w' ⟨s0, s1, s2, s3⟩
         go_simp; with_reducible rfl
        rotate_left
        ·
         simp only [ap]
         rfl
        refine one_ (i := 2) (N := some 28) (bA 43 31) rfl rfl (one_of HT_.out (by kernel_rfl)) (by decide) (fun K hK => ?_)
        refine goes_ Try.func12 (by kernel_rfl) rfl #[.agg #[.int .i64 a0_0, .int .i64 a0_1], .agg #[.int .i64 a1_0, .int .i64 a1_1]] (by rfl) rfl rfl (by (try simp only [mp]); first | done | rfl | (simp only [ld]; rfl)) ?_
        with_reducible refine (ratio_Add.calls kj2 a0_0 a0_1 a1_0 a1_1 t351 t352 _ A31.out).mono ?_
        rintro e w49 ⟨rfl, hb⟩
        refine ⟨_, rfl, ?_⟩
        replace BK343 := kb BK343 hb
        replace BK344 := kb BK344 hb
        replace HB := hs' HB (by repeat first | (with_reducible exact HB.out) | refine bl1 ?_ | (with_reducible refine bset ?_ ‹_›) | exact HB.out) hb
        (try clear hb); (try clear hb2); (try clear hk); (try clear hi)
        refine hK.out _ _ ⟨(blk_cell BK343.out 0).trans rfl, (blk_cell BK343.out 1).trans rfl, (blk_cell BK344.out 0).trans rfl, (blk_cell BK344.out 1).trans rfl⟩ (fun hHeld => ?_)
        clear hK K
        refine norm_ (a' := ?_) ?_ ?_
        rotate_left
        ·
         show Act.put _ (some 28) _ = _
         simp only [ap]; rfl
        refine one_ (i := 5) (N := some 31) (bA 43 63) rfl rfl (one_of HT_.out (by kernel_rfl)) (by decide) (fun K hK => ?_)
        refine goes_ Try.func38 (by kernel_rfl) rfl #[.agg #[.int .i64 a0_0, .int .i64 a0_1], .agg #[.int .i64 a1_0, .int .i64 a1_1]] (by rfl) rfl rfl (by (try simp only [mp]); first | done | rfl | (simp only [ld]; rfl)) ?_
        with_reducible refine (serinetteref01_Add.calls kj2 a0_0 a0_1 a1_0 a1_1 t353 t354 _ A32.out).mono ?_
        rintro e w50 ⟨rfl, hb⟩
        refine ⟨_, rfl, ?_⟩
        replace BK343 := kb BK343 hb
        replace BK344 := kb BK344 hb
        replace HB := hs' HB (by repeat first | (with_reducible exact HB.out) | refine bl1 ?_ | (with_reducible refine bset ?_ ‹_›) | exact HB.out) hb
        (try clear hb); (try clear hb2); (try clear hk); (try clear hi)
        refine hK.out _ _ ⟨(blk_cell BK343.out 0).trans rfl, (blk_cell BK343.out 1).trans rfl, (blk_cell BK344.out 0).trans rfl, (blk_cell BK344.out 1).trans rfl⟩ (fun hHeld => ?_)
        clear hK K
        refine norm_ (a' := ?_) ?_ ?_
        rotate_left
        ·
         show Act.put _ (some 31) _ = _
         simp only [ap]; rfl
        refine pure_ (i := 6) (N := some 32) (v := ?_) (a' := ?_) (bA 43 127) rfl rfl (any_of HT_.out (by kernel_rfl)) (fun _ _ _ h => h) (Or.inl ⟨by rfl, ?_⟩) ?_ ?_
        rotate_left
        ·
         intro w'
         go_simp; with_reducible rfl
        rotate_left
        ·
         simp only [ap]
         rfl
        refine pure_ (i := 7) (N := some 33) (v := ?_) (a' := ?_) (bA 43 255) rfl rfl (any_of HT_.out (by kernel_rfl)) (fun _ _ _ h => h) (Or.inl ⟨by rfl, ?_⟩) ?_ ?_
        rotate_left
        ·
         intro w'
         go_simp; with_reducible rfl
        rotate_left
        ·
         simp only [ap]
         rfl
        refine take_ (i := 8) (N := some 34) (v := ?_) (a' := ?_) (bA 43 511) rfl rfl (take_ofW HT_.out HW_.out (by kernel_rfl)) (fun _ _ _ h => h) (Or.inl ⟨by rfl, ?_⟩) hHeld ?_ ?_
        rotate_left
        ·
         rintro w' ⟨s0, s1, s2, s3⟩
         go_simp; with_reducible rfl
        rotate_left
        ·
         simp only [ap]
         rfl
        refine take_ (i := 9) (N := some 35) (v := ?_) (a' := ?_) (bA 43 1023) rfl rfl (take_ofW HT_.out HW_.out (by kernel_rfl)) (fun _ _ _ h => h) (Or.inl ⟨by rfl, ?_⟩) hHeld ?_ ?_
        rotate_left
        ·
         rintro w' ⟨s0, s1, s2, s3⟩
         go_simp; with_reducible rfl
        rotate_left
        ·
         simp only [ap]
         rfl
        refine take_ (i := 11) (N := some 37) (v := ?_) (a' := ?_) (bA 43 3071) rfl rfl (take_ofW HT_.out HW_.out (by kernel_rfl)) (fun _ _ _ h => h) (Or.inl ⟨by rfl, ?_⟩) hHeld ?_ ?_
        rotate_left
        ·
         rintro w' ⟨s0, s1, s2, s3⟩
         go_simp; with_reducible rfl
        rotate_left
        ·
         simp only [ap]
         rfl
        refine take_ (i := 12) (N := some 38) (v := ?_) (a' := ?_) (bA 43 7167) rfl rfl (take_ofW HT_.out HW_.out (by kernel_rfl)) (fun _ _ _ h => h) (Or.inl ⟨by rfl, ?_⟩) hHeld ?_ ?_
        rotate_left
        ·
         rintro w' ⟨s0, s1, s2, s3⟩
         go_simp; with_reducible rfl
        rotate_left
        ·
         simp only [ap]
         rfl
        refine one_ (i := 10) (N := some 36) (bA 43 8191) rfl rfl (one_of HT_.out (by kernel_rfl)) (by decide) (fun K hK => ?_)
        refine goes_ Try.func32 (by kernel_rfl) rfl #[.agg #[.int .i64 a0_0, .int .i64 a0_1], .agg #[.int .i64 a1_0, .int .i64 a1_1]] (by rfl) rfl rfl (by (try simp only [mp]); first | done | rfl | (simp only [ld]; rfl)) ?_
        with_reducible refine (ratio_Sub.calls kj2 a0_0 a0_1 a1_0 a1_1 t355 t356 _ A37.out).mono ?_
        rintro e w51 ⟨rfl, hb⟩
        refine ⟨_, rfl, ?_⟩
        replace BK343 := kb BK343 hb
        replace BK344 := kb BK344 hb
        replace HB := hs' HB (by repeat first | (with_reducible exact HB.out) | refine bl1 ?_ | (with_reducible refine bset ?_ ‹_›) | exact HB.out) hb
        (try clear hb); (try clear hb2); (try clear hk); (try clear hi)
        refine hK.out _ _ ⟨(blk_cell BK343.out 0).trans rfl, (blk_cell BK343.out 1).trans rfl, (blk_cell BK344.out 0).trans rfl, (blk_cell BK344.out 1).trans rfl⟩ (fun hHeld => ?_)
        clear hK K
        refine norm_ (a' := ?_) ?_ ?_
        rotate_left
        ·
         show Act.put _ (some 36) _ = _
         simp only [ap]; rfl
        refine one_ (i := 13) (N := some 39) (bA 43 16383) rfl rfl (one_of HT_.out (by kernel_rfl)) (by decide) (fun K hK => ?_)
        refine goes_ Try.func39 (by kernel_rfl) rfl #[.agg #[.int .i64 a0_0, .int .i64 a0_1], .agg #[.int .i64 a1_0, .int .i64 a1_1]] (by rfl) rfl rfl (by (try simp only [mp]); first | done | rfl | (simp only [ld]; rfl)) ?_
        with_reducible refine (serinetteref01_Sub.calls kj2 a0_0 a0_1 a1_0 a1_1 t357 t358 _ A38.out).mono ?_
        rintro e w52 ⟨rfl, hb⟩
        refine ⟨_, rfl, ?_⟩
        replace BK343 := kb BK343 hb
        replace BK344 := kb BK344 hb
        replace HB := hs' HB (by repeat first | (with_reducible exact HB.out) | refine bl1 ?_ | (with_reducible refine bset ?_ ‹_›) | exact HB.out) hb
        (try clear hb); (try clear hb2); (try clear hk); (try clear hi)
        refine hK.out _ _ ⟨(blk_cell BK343.out 0).trans rfl, (blk_cell BK343.out 1).trans rfl, (blk_cell BK344.out 0).trans rfl, (blk_cell BK344.out 1).trans rfl⟩ (fun hHeld => ?_)
        clear hK K
        refine norm_ (a' := ?_) ?_ ?_
        rotate_left
        ·
         show Act.put _ (some 39) _ = _
         simp only [ap]; rfl
        refine pure_ (i := 14) (N := some 40) (v := ?_) (a' := ?_) (bA 43 32767) rfl rfl (any_of HT_.out (by kernel_rfl)) (fun _ _ _ h => h) (Or.inl ⟨by rfl, ?_⟩) ?_ ?_
        rotate_left
        ·
         intro w'
         go_simp; with_reducible rfl
        rotate_left
        ·
         simp only [ap]
         rfl
        refine pure_ (i := 15) (N := some 41) (v := ?_) (a' := ?_) (bA 43 65535) rfl rfl (any_of HT_.out (by kernel_rfl)) (fun _ _ _ h => h) (Or.inl ⟨by rfl, ?_⟩) ?_ ?_
        rotate_left
        ·
         intro w'
         go_simp; with_reducible rfl
        rotate_left
        ·
         simp only [ap]
         rfl
        refine pure_ (i := 16) (N := some 42) (v := ?_) (a' := ?_) (bA 43 131071) rfl rfl (any_of HT_.out (by kernel_rfl)) (fun _ _ _ h => h) (Or.inl ⟨by rfl, ?_⟩) ?_ ?_
        rotate_left
        ·
         intro w'
         go_simp; with_reducible rfl
        rotate_left
        ·
         simp only [ap]
         rfl
        refine take_ (i := 17) (N := some 43) (v := ?_) (a' := ?_) (bA 43 262143) rfl rfl (take_ofW HT_.out HW_.out (by kernel_rfl)) (fun _ _ _ h => h) (Or.inl ⟨by rfl, ?_⟩) hHeld ?_ ?_
        rotate_left
        ·
         rintro w' ⟨s0, s1, s2, s3⟩
         go_simp; with_reducible rfl
        rotate_left
        ·
         simp only [ap]
         rfl
        refine take_ (i := 18) (N := some 44) (v := ?_) (a' := ?_) (bA 43 524287) rfl rfl (take_ofW HT_.out HW_.out (by kernel_rfl)) (fun _ _ _ h => h) (Or.inl ⟨by rfl, ?_⟩) hHeld ?_ ?_
        rotate_left
        ·
         rintro w' ⟨s0, s1, s2, s3⟩
         go_simp; with_reducible rfl
        rotate_left
        ·
         simp only [ap]
         rfl
        refine take_ (i := 20) (N := some 46) (v := ?_) (a' := ?_) (bA 43 1572863) rfl rfl (take_ofW HT_.out HW_.out (by kernel_rfl)) (fun _ _ _ h => h) (Or.inl ⟨by rfl, ?_⟩) hHeld ?_ ?_
        rotate_left
        ·
         rintro w' ⟨s0, s1, s2, s3⟩
         go_simp; with_reducible rfl
        rotate_left
        ·
         simp only [ap]
         rfl
        refine take_ (i := 21) (N := some 47) (v := ?_) (a' := ?_) (bA 43 3670015) rfl rfl (take_ofW HT_.out HW_.out (by kernel_rfl)) (fun _ _ _ h => h) (Or.inl ⟨by rfl, ?_⟩) hHeld ?_ ?_
        rotate_left
        ·
         rintro w' ⟨s0, s1, s2, s3⟩
         go_simp; with_reducible rfl
        rotate_left
        ·
         simp only [ap]
         rfl
        refine one_ (i := 19) (N := some 45) (bA 43 4194303) rfl rfl (one_of HT_.out (by kernel_rfl)) (by decide) (fun K hK => ?_)
        refine goes_ Try.func13 (by kernel_rfl) rfl #[.agg #[.int .i64 a0_0, .int .i64 a0_1], .agg #[.int .i64 a1_0, .int .i64 a1_1]] (by rfl) rfl rfl (by (try simp only [mp]); first | done | rfl | (simp only [ld]; rfl)) ?_
        with_reducible refine (ratio_Mul.calls kj2 a0_0 a0_1 a1_0 a1_1 t359 t360 _ A45.out).mono ?_
        rintro e w53 ⟨rfl, hb⟩
        refine ⟨_, rfl, ?_⟩
        replace BK343 := kb BK343 hb
        replace BK344 := kb BK344 hb
        replace HB := hs' HB (by repeat first | (with_reducible exact HB.out) | refine bl1 ?_ | (with_reducible refine bset ?_ ‹_›) | exact HB.out) hb
        (try clear hb); (try clear hb2); (try clear hk); (try clear hi)
        refine hK.out _ _ ⟨(blk_cell BK343.out 0).trans rfl, (blk_cell BK343.out 1).trans rfl, (blk_cell BK344.out 0).trans rfl, (blk_cell BK344.out 1).trans rfl⟩ (fun hHeld => ?_)
        clear hK K
        refine norm_ (a' := ?_) ?_ ?_
        rotate_left
        ·
         show Act.put _ (some 45) _ = _
         simp only [ap]; rfl
        refine one_ (i := 22) (N := some 48) (bA 43 8388607) rfl rfl (one_of HT_.out (by kernel_rfl)) (by decide) (fun K hK => ?_)
        refine goes_ Try.func40 (by kernel_rfl) rfl #[.agg #[.int .i64 a0_0, .int .i64 a0_1], .agg #[.int .i64 a1_0, .int .i64 a1_1]] (by rfl) rfl rfl (by (try simp only [mp]); first | done | rfl | (simp only [ld]; rfl)) ?_
        with_reducible refine (serinetteref01_Mul.calls kj2 a0_0 a0_1 a1_0 a1_1 t361 t362 _ A46.out).mono ?_
        rintro e w54 ⟨rfl, hb⟩
        refine ⟨_, rfl, ?_⟩
        replace BK343 := kb BK343 hb
        replace BK344 := kb BK344 hb
        replace HB := hs' HB (by repeat first | (with_reducible exact HB.out) | refine bl1 ?_ | (with_reducible refine bset ?_ ‹_›) | exact HB.out) hb
        (try clear hb); (try clear hb2); (try clear hk); (try clear hi)
        refine hK.out _ _ ⟨(blk_cell BK343.out 0).trans rfl, (blk_cell BK343.out 1).trans rfl, (blk_cell BK344.out 0).trans rfl, (blk_cell BK344.out 1).trans rfl⟩ (fun hHeld => ?_)
        clear hK K
        refine norm_ (a' := ?_) ?_ ?_
        rotate_left
        ·
         show Act.put _ (some 48) _ = _
         simp only [ap]; rfl
        refine pure_ (i := 23) (N := some 49) (v := ?_) (a' := ?_) (bA 43 16777215) rfl rfl (any_of HT_.out (by kernel_rfl)) (fun _ _ _ h => h) (Or.inl ⟨by rfl, ?_⟩) ?_ ?_
        rotate_left
        ·
         intro w'
         go_simp; with_reducible rfl
        rotate_left
        ·
         simp only [ap]
         rfl
        refine pure_ (i := 24) (N := some 50) (v := ?_) (a' := ?_) (bA 43 33554431) rfl rfl (any_of HT_.out (by kernel_rfl)) (fun _ _ _ h => h) (Or.inl ⟨by rfl, ?_⟩) ?_ ?_
        rotate_left
        ·
         intro w'
         go_simp; with_reducible rfl
        rotate_left
        ·
         simp only [ap]
         rfl
        refine pure_ (i := 25) (N := some 51) (v := ?_) (a' := ?_) (bA 43 67108863) rfl rfl (any_of HT_.out (by kernel_rfl)) (fun _ _ _ h => h) (Or.inl ⟨by rfl, ?_⟩) ?_ ?_
        rotate_left
        ·
         intro w'
         go_simp; with_reducible rfl
        rotate_left
        ·
         simp only [ap]
         rfl
        refine pure_ (i := 26) (N := some 52) (v := undef) (a' := ?_) (bA 43 134217727) rfl rfl (any_of HT_.out (by kernel_rfl)) (fun _ _ _ h => h) (Or.inr ⟨by rfl, rfl⟩) ?_ ?_
        rotate_left
        ·
         simp only [ap]
         rfl
        refine pure_ (i := 27) (N := some 53) (v := undef) (a' := ?_) (bA 43 268435455) rfl rfl (any_of HT_.out (by kernel_rfl)) (fun _ _ _ h => h) (Or.inr ⟨by rfl, rfl⟩) ?_ ?_
        rotate_left
        ·
         simp only [ap]
         rfl
        refine pure_ (i := 28) (N := some 54) (v := undef) (a' := ?_) (bA 43 536870911) rfl rfl (any_of HT_.out (by kernel_rfl)) (fun _ _ _ h => h) (Or.inr ⟨by rfl, rfl⟩) ?_ ?_
        rotate_left
        ·
         simp only [ap]
         rfl
        refine pure_ (i := 29) (N := some 55) (v := undef) (a' := ?_) (bA 43 1073741823) rfl rfl (any_of HT_.out (by kernel_rfl)) (fun _ _ _ h => h) (Or.inr ⟨by rfl, rfl⟩) ?_ ?_
        rotate_left
        ·
         simp only [ap]
         rfl
        refine pure_ (i := 30) (N := some 56) (v := undef) (a' := ?_) (bA 43 2147483647) rfl rfl (any_of HT_.out (by kernel_rfl)) (fun _ _ _ h => h) (Or.inr ⟨by rfl, rfl⟩) ?_ ?_
        rotate_left
        ·
         simp only [ap]
         rfl
        refine pure_ (i := 31) (N := some 57) (v := undef) (a' := ?_) (bA 43 4294967295) rfl rfl (any_of HT_.out (by kernel_rfl)) (fun _ _ _ h => h) (Or.inr ⟨by rfl, rfl⟩) ?_ ?_
        rotate_left
        ·
         simp only [ap]
         rfl
        refine pure_ (i := 32) (N := some 58) (v := undef) (a' := ?_) (bA 43 8589934591) rfl rfl (any_of HT_.out (by kernel_rfl)) (fun _ _ _ h => h) (Or.inr ⟨by rfl, rfl⟩) ?_ ?_
        rotate_left
        ·
         simp only [ap]
         rfl
        refine pure_ (i := 33) (N := some 59) (v := ?_) (a' := ?_) (bA 43 17179869183) rfl rfl (any_of HT_.out (by kernel_rfl)) (fun _ _ _ h => h) (Or.inl ⟨by rfl, ?_⟩) ?_ ?_
        rotate_left
        ·
         intro w'
         go_simp; with_reducible rfl
        rotate_left
        ·
         simp only [ap]
         rfl
        refine pure_ (i := 34) (N := some 60) (v := ?_) (a' := ?_) (bA 43 34359738367) rfl rfl (any_of HT_.out (by kernel_rfl)) (fun _ _ _ h => h) (Or.inl ⟨by rfl, ?_⟩) ?_ ?_
        rotate_left
        ·
         intro w'
         go_simp; with_reducible rfl
        rotate_left
        ·
         simp only [ap]
         rfl
        refine pure_ (i := 35) (N := some 61) (v := undef) (a' := ?_) (bA 43 68719476735) rfl rfl (any_of HT_.out (by kernel_rfl)) (fun _ _ _ h => h) (Or.inr ⟨by rfl, rfl⟩) ?_ ?_
        rotate_left
        ·
         simp only [ap]
         rfl
        refine pure_ (i := 36) (N := some 62) (v := undef) (a' := ?_) (bA 43 137438953471) rfl rfl (any_of HT_.out (by kernel_rfl)) (fun _ _ _ h => h) (Or.inr ⟨by rfl, rfl⟩) ?_ ?_
        rotate_left
        ·
         simp only [ap]
         rfl
        refine pure_ (i := 37) (N := some 63) (v := undef) (a' := ?_) (bA 43 274877906943) rfl rfl (any_of HT_.out (by kernel_rfl)) (fun _ _ _ h => h) (Or.inr ⟨by rfl, rfl⟩) ?_ ?_
        rotate_left
        ·
         simp only [ap]
         rfl
        refine pure_ (i := 38) (N := some 64) (v := undef) (a' := ?_) (bA 43 549755813887) rfl rfl (any_of HT_.out (by kernel_rfl)) (fun _ _ _ h => h) (Or.inr ⟨by rfl, rfl⟩) ?_ ?_
        rotate_left
        ·
         simp only [ap]
         rfl
        refine pure_ (i := 39) (N := some 65) (v := undef) (a' := ?_) (bA 43 1099511627775) rfl rfl (any_of HT_.out (by kernel_rfl)) (fun _ _ _ h => h) (Or.inr ⟨by rfl, rfl⟩) ?_ ?_
        rotate_left
        ·
         simp only [ap]
         rfl
        refine pure_ (i := 40) (N := some 66) (v := undef) (a' := ?_) (bA 43 2199023255551) rfl rfl (any_of HT_.out (by kernel_rfl)) (fun _ _ _ h => h) (Or.inr ⟨by rfl, rfl⟩) ?_ ?_
        rotate_left
        ·
         simp only [ap]
         rfl
        refine pure_ (i := 41) (N := some 67) (v := undef) (a' := ?_) (bA 43 4398046511103) rfl rfl (any_of HT_.out (by kernel_rfl)) (fun _ _ _ h => h) (Or.inr ⟨by rfl, rfl⟩) ?_ ?_
        rotate_left
        ·
         simp only [ap]
         rfl
        refine pure_ (i := 42) (N := some 68) (v := ?_) (a' := ?_) (bA 43 8796093022207) rfl rfl (any_of HT_.out (by kernel_rfl)) (fun _ _ _ h => h) (Or.inl ⟨by rfl, ?_⟩) ?_ ?_
        rotate_left
        ·
         intro w'
         go_simp; with_reducible rfl
        rotate_left
        ·
         simp only [ap]
         rfl
        refine done_ (done_of HT_.out (by kernel_rfl)) ?_
        try go_wp2
        go_meet
        case rel => exact ⟨_, (true), (by first | rfl | (simp; done) | (simp [*]; done)), H', ⟨by have := HJ2.out; first | omega | exact Nat.le_refl _⟩, ⟨by refine bk ?_; exact BK343.out⟩, ⟨by refine bk ?_; exact BK344.out⟩, ⟨by repeat first | exact HB.out | refine bset ?_ ‹_› | apply below_alloc | apply pw_below_drewN | apply below_drew1⟩⟩
       ·
        rw [if_neg c47] at H
        have c47b0 : (!(t359 == t361) || (!(t360 == t362))) = false := by simpa using c47
        clear c47
        replace H := Option.bind_eq_some_iff.mp H
        obtain ⟨⟨t363, t364⟩, A550, H⟩ := H
        (try dsimp only at H)
        have A55 := Aside0.mk A550
        clear A550
        replace H := Option.bind_eq_some_iff.mp H
        obtain ⟨⟨t365, t366⟩, A560, H⟩ := H
        (try dsimp only at H)
        have A56 := Aside0.mk A560
        clear A560
        by_cases c57 : (!(t363 == t365) || (!(t364 == t366))) = true
        ·
         rw [if_pos c57] at H
         have c57b0 : (!(t363 == t365) || (!(t364 == t366))) = true := c57
         clear c57
         have H' := Aside0.mk H
         clear H
         try go_wp2
         replace BK343 := kd BK343
         replace BK344 := kd BK344
         replace HB := Aside0.mk (below_drew1 HB.out)
         refine start_ (n := 43) (S := fun w' => w'.cell? ⟨gb343, 0, none⟩ = some (.int .i64 a0_0) ∧ w'.cell? ⟨gb343, 1, none⟩ = some (.int .i64 a0_1) ∧ w'.cell? ⟨gb344, 0, none⟩ = some (.int .i64 a1_0) ∧ w'.cell? ⟨gb344, 1, none⟩ = some (.int .i64 a1_1)) (ds := []) (bA 43 0) (by kernel_rfl) rfl rfl ⟨(blk_cell BK343.out 0).trans rfl, (blk_cell BK343.out 1).trans rfl, (blk_cell BK344.out 0).trans rfl, (blk_cell BK344.out 1).trans rfl⟩ (fun hHeld => ?_); refine with_tabW serinettelaw01_NumberSays.tab3 serinettelaw01_NumberSays.bits3 (fun HT_ HW_ => ?_)
         generalize wc.drew = w58 at BK343 BK344 HB hHeld ⊢
         refine take_ (i := 0) (N := some 26) (v := ?_) (a' := ?_) (bA 43 1) rfl rfl (take_ofW HT_.out HW_.out (by kernel_rfl)) (fun _ _ _ h => h) (Or.inl ⟨by rfl, ?_⟩) hHeld ?_ ?_
         rotate_left
         ·
          rintro w' ⟨s0, s1, s2, s3⟩
          go_simp; with_reducible rfl
         rotate_left
         ·
          simp only [ap]
          rfl
         refine take_ (i := 1) (N := some 27) (v := ?_) (a' := ?_) (bA 43 3) rfl rfl (take_ofW HT_.out HW_.out (by kernel_rfl)) (fun _ _ _ h => h) (Or.inl ⟨by rfl, ?_⟩) hHeld ?_ ?_
         rotate_left
         ·
          rintro w' ⟨s0, s1, s2, s3⟩
          go_simp; with_reducible rfl
         rotate_left
         ·
          simp only [ap]
          rfl
         refine take_ (i := 3) (N := some 29) (v := ?_) (a' := ?_) (bA 43 11) rfl rfl (take_ofW HT_.out HW_.out (by kernel_rfl)) (fun _ _ _ h => h) (Or.inl ⟨by rfl, ?_⟩) hHeld ?_ ?_
         rotate_left
         ·
          rintro w' ⟨s0, s1, s2, s3⟩
          go_simp; with_reducible rfl
         rotate_left
         ·
          simp only [ap]
          rfl
         refine take_ (i := 4) (N := some 30) (v := ?_) (a' := ?_) (bA 43 27) rfl rfl (take_ofW HT_.out HW_.out (by kernel_rfl)) (fun _ _ _ h => h) (Or.inl ⟨by rfl, ?_⟩) hHeld ?_ ?_
         rotate_left
         ·
          rintro w' ⟨s0, s1, s2, s3⟩
          go_simp; with_reducible rfl
         rotate_left
         ·
          simp only [ap]
          rfl
         refine one_ (i := 2) (N := some 28) (bA 43 31) rfl rfl (one_of HT_.out (by kernel_rfl)) (by decide) (fun K hK => ?_)
         refine goes_ Try.func12 (by kernel_rfl) rfl #[.agg #[.int .i64 a0_0, .int .i64 a0_1], .agg #[.int .i64 a1_0, .int .i64 a1_1]] (by rfl) rfl rfl (by (try simp only [mp]); first | done | rfl | (simp only [ld]; rfl)) ?_
         with_reducible refine (ratio_Add.calls kj2 a0_0 a0_1 a1_0 a1_1 t351 t352 _ A31.out).mono ?_
         rintro e w59 ⟨rfl, hb⟩
         refine ⟨_, rfl, ?_⟩
         replace BK343 := kb BK343 hb
         replace BK344 := kb BK344 hb
         replace HB := hs' HB (by repeat first | (with_reducible exact HB.out) | refine bl1 ?_ | (with_reducible refine bset ?_ ‹_›) | exact HB.out) hb
         (try clear hb); (try clear hb2); (try clear hk); (try clear hi)
         refine hK.out _ _ ⟨(blk_cell BK343.out 0).trans rfl, (blk_cell BK343.out 1).trans rfl, (blk_cell BK344.out 0).trans rfl, (blk_cell BK344.out 1).trans rfl⟩ (fun hHeld => ?_)
         clear hK K
         refine norm_ (a' := ?_) ?_ ?_
         rotate_left
         ·
          show Act.put _ (some 28) _ = _
          simp only [ap]; rfl
         refine one_ (i := 5) (N := some 31) (bA 43 63) rfl rfl (one_of HT_.out (by kernel_rfl)) (by decide) (fun K hK => ?_)
         refine goes_ Try.func38 (by kernel_rfl) rfl #[.agg #[.int .i64 a0_0, .int .i64 a0_1], .agg #[.int .i64 a1_0, .int .i64 a1_1]] (by rfl) rfl rfl (by (try simp only [mp]); first | done | rfl | (simp only [ld]; rfl)) ?_
         with_reducible refine (serinetteref01_Add.calls kj2 a0_0 a0_1 a1_0 a1_1 t353 t354 _ A32.out).mono ?_
         rintro e w60 ⟨rfl, hb⟩
         refine ⟨_, rfl, ?_⟩
         replace BK343 := kb BK343 hb
         replace BK344 := kb BK344 hb
         replace HB := hs' HB (by repeat first | (with_reducible exact HB.out) | refine bl1 ?_ | (with_reducible refine bset ?_ ‹_›) | exact HB.out) hb
         (try clear hb); (try clear hb2); (try clear hk); (try clear hi)
         refine hK.out _ _ ⟨(blk_cell BK343.out 0).trans rfl, (blk_cell BK343.out 1).trans rfl, (blk_cell BK344.out 0).trans rfl, (blk_cell BK344.out 1).trans rfl⟩ (fun hHeld => ?_)
         clear hK K
         refine norm_ (a' := ?_) ?_ ?_
         rotate_left
         ·
          show Act.put _ (some 31) _ = _
          simp only [ap]; rfl
         refine pure_ (i := 6) (N := some 32) (v := ?_) (a' := ?_) (bA 43 127) rfl rfl (any_of HT_.out (by kernel_rfl)) (fun _ _ _ h => h) (Or.inl ⟨by rfl, ?_⟩) ?_ ?_
         rotate_left
         ·
          intro w'
          go_simp; with_reducible rfl
         rotate_left
         ·
          simp only [ap]
          rfl
         refine pure_ (i := 7) (N := some 33) (v := ?_) (a' := ?_) (bA 43 255) rfl rfl (any_of HT_.out (by kernel_rfl)) (fun _ _ _ h => h) (Or.inl ⟨by rfl, ?_⟩) ?_ ?_
         rotate_left
         ·
          intro w'
          go_simp; with_reducible rfl
         rotate_left
         ·
          simp only [ap]
          rfl
         refine take_ (i := 8) (N := some 34) (v := ?_) (a' := ?_) (bA 43 511) rfl rfl (take_ofW HT_.out HW_.out (by kernel_rfl)) (fun _ _ _ h => h) (Or.inl ⟨by rfl, ?_⟩) hHeld ?_ ?_
         rotate_left
         ·
          rintro w' ⟨s0, s1, s2, s3⟩
          go_simp; with_reducible rfl
         rotate_left
         ·
          simp only [ap]
          rfl
         refine take_ (i := 9) (N := some 35) (v := ?_) (a' := ?_) (bA 43 1023) rfl rfl (take_ofW HT_.out HW_.out (by kernel_rfl)) (fun _ _ _ h => h) (Or.inl ⟨by rfl, ?_⟩) hHeld ?_ ?_
         rotate_left
         ·
          rintro w' ⟨s0, s1, s2, s3⟩
          go_simp; with_reducible rfl
         rotate_left
         ·
          simp only [ap]
          rfl
         refine take_ (i := 11) (N := some 37) (v := ?_) (a' := ?_) (bA 43 3071) rfl rfl (take_ofW HT_.out HW_.out (by kernel_rfl)) (fun _ _ _ h => h) (Or.inl ⟨by rfl, ?_⟩) hHeld ?_ ?_
         rotate_left
         ·
          rintro w' ⟨s0, s1, s2, s3⟩
          go_simp; with_reducible rfl
         rotate_left
         ·
          simp only [ap]
          rfl
         refine take_ (i := 12) (N := some 38) (v := ?_) (a' := ?_) (bA 43 7167) rfl rfl (take_ofW HT_.out HW_.out (by kernel_rfl)) (fun _ _ _ h => h) (Or.inl ⟨by rfl, ?_⟩) hHeld ?_ ?_
         rotate_left
         ·
          rintro w' ⟨s0, s1, s2, s3⟩
          go_simp; with_reducible rfl
         rotate_left
         ·
          simp only [ap]
          rfl
         refine one_ (i := 10) (N := some 36) (bA 43 8191) rfl rfl (one_of HT_.out (by kernel_rfl)) (by decide) (fun K hK => ?_)
         refine goes_ Try.func32 (by kernel_rfl) rfl #[.agg #[.int .i64 a0_0, .int .i64 a0_1], .agg #[.int .i64 a1_0, .int .i64 a1_1]] (by rfl) rfl rfl (by (try simp only [mp]); first | done | rfl | (simp only [ld]; rfl)) ?_
         with_reducible refine (ratio_Sub.calls kj2 a0_0 a0_1 a1_0 a1_1 t355 t356 _ A37.out).mono ?_
         rintro e w61 ⟨rfl, hb⟩
         refine ⟨_, rfl, ?_⟩
         replace BK343 := kb BK343 hb
         replace BK344 := kb BK344 hb
         replace HB := hs' HB (by repeat first | (with_reducible exact HB.out) | refine bl1 ?_ | (with_reducible refine bset ?_ ‹_›) | exact HB.out) hb
         (try clear hb); (try clear hb2); (try clear hk); (try clear hi)
         refine hK.out _ _ ⟨(blk_cell BK343.out 0).trans rfl, (blk_cell BK343.out 1).trans rfl, (blk_cell BK344.out 0).trans rfl, (blk_cell BK344.out 1).trans rfl⟩ (fun hHeld => ?_)
         clear hK K
         refine norm_ (a' := ?_) ?_ ?_
         rotate_left
         ·
          show Act.put _ (some 36) _ = _
          simp only [ap]; rfl
         refine one_ (i := 13) (N := some 39) (bA 43 16383) rfl rfl (one_of HT_.out (by kernel_rfl)) (by decide) (fun K hK => ?_)
         refine goes_ Try.func39 (by kernel_rfl) rfl #[.agg #[.int .i64 a0_0, .int .i64 a0_1], .agg #[.int .i64 a1_0, .int .i64 a1_1]] (by rfl) rfl rfl (by (try simp only [mp]); first | done | rfl | (simp only [ld]; rfl)) ?_
         with_reducible refine (serinetteref01_Sub.calls kj2 a0_0 a0_1 a1_0 a1_1 t357 t358 _ A38.out).mono ?_
         rintro e w62 ⟨rfl, hb⟩
         refine ⟨_, rfl, ?_⟩
         replace BK343 := kb BK343 hb
         replace BK344 := kb BK344 hb
         replace HB := hs' HB (by repeat first | (with_reducible exact HB.out) | refine bl1 ?_ | (with_reducible refine bset ?_ ‹_›) | exact HB.out) hb
         (try clear hb); (try clear hb2); (try clear hk); (try clear hi)
         refine hK.out _ _ ⟨(blk_cell BK343.out 0).trans rfl, (blk_cell BK343.out 1).trans rfl, (blk_cell BK344.out 0).trans rfl, (blk_cell BK344.out 1).trans rfl⟩ (fun hHeld => ?_)
         clear hK K
         refine norm_ (a' := ?_) ?_ ?_
         rotate_left
         ·
          show Act.put _ (some 39) _ = _
          simp only [ap]; rfl
         refine pure_ (i := 14) (N := some 40) (v := ?_) (a' := ?_) (bA 43 32767) rfl rfl (any_of HT_.out (by kernel_rfl)) (fun _ _ _ h => h) (Or.inl ⟨by rfl, ?_⟩) ?_ ?_
         rotate_left
         ·
          intro w'
          go_simp; with_reducible rfl
         rotate_left
         ·
          simp only [ap]
          rfl
         refine pure_ (i := 15) (N := some 41) (v := ?_) (a' := ?_) (bA 43 65535) rfl rfl (any_of HT_.out (by kernel_rfl)) (fun _ _ _ h => h) (Or.inl ⟨by rfl, ?_⟩) ?_ ?_
         rotate_left
         ·
          intro w'
          go_simp; with_reducible rfl
         rotate_left
         ·
          simp only [ap]
          rfl
         refine pure_ (i := 16) (N := some 42) (v := ?_) (a' := ?_) (bA 43 131071) rfl rfl (any_of HT_.out (by kernel_rfl)) (fun _ _ _ h => h) (Or.inl ⟨by rfl, ?_⟩) ?_ ?_
         rotate_left
         ·
          intro w'
          go_simp; with_reducible rfl
         rotate_left
         ·
          simp only [ap]
          rfl
         refine take_ (i := 17) (N := some 43) (v := ?_) (a' := ?_) (bA 43 262143) rfl rfl (take_ofW HT_.out HW_.out (by kernel_rfl)) (fun _ _ _ h => h) (Or.inl ⟨by rfl, ?_⟩) hHeld ?_ ?_
         rotate_left
         ·
          rintro w' ⟨s0, s1, s2, s3⟩
          go_simp; with_reducible rfl
         rotate_left
         ·
          simp only [ap]
          rfl
         refine take_ (i := 18) (N := some 44) (v := ?_) (a' := ?_) (bA 43 524287) rfl rfl (take_ofW HT_.out HW_.out (by kernel_rfl)) (fun _ _ _ h => h) (Or.inl ⟨by rfl, ?_⟩) hHeld ?_ ?_
         rotate_left
         ·
          rintro w' ⟨s0, s1, s2, s3⟩
          go_simp; with_reducible rfl
         rotate_left
         ·
          simp only [ap]
          rfl
         refine take_ (i := 20) (N := some 46) (v := ?_) (a' := ?_) (bA 43 1572863) rfl rfl (take_ofW HT_.out HW_.out (by kernel_rfl)) (fun _ _ _ h => h) (Or.inl ⟨by rfl, ?_⟩) hHeld ?_ ?_
         rotate_left
         ·
          rintro w' ⟨s0, s1, s2, s3⟩
          go_simp; with_reducible rfl
         rotate_left
         ·
          simp only [ap]
          rfl
         refine take_ (i := 21) (N := some 47) (v := ?_) (a' := ?_) (bA 43 3670015) rfl rfl (take_ofW HT_.out HW_.out (by kernel_rfl)) (fun _ _ _ h => h) (Or.inl ⟨by rfl, ?_⟩) hHeld ?_ ?_
         rotate_left
         ·
          rintro w' ⟨s0, s1, s2, s3⟩
          go_simp; with_reducible rfl
         rotate_left
         ·
          simp only [ap]
          rfl
         refine one_ (i := 19) (N := some 45) (bA 43 4194303) rfl rfl (one_of HT_.out (by kernel_rfl)) (by decide) (fun K hK => ?_)
         refine goes_ Try.func13 (by kernel_rfl) rfl #[.agg #[.int .i64 a0_0, .int .i64 a0_1], .agg #[.int .i64 a1_0, .int .i64 a1_1]] (by rfl) rfl rfl (by (try simp only [mp]); first | done | rfl | (simp only [ld]; rfl)) ?_
         with_reducible refine (ratio_Mul.calls kj2 a0_0 a0_1 a1_0 a1_1 t359 t360 _ A45.out).mono ?_
         rintro e w63 ⟨rfl, hb⟩
         refine ⟨_, rfl, ?_⟩
         replace BK343 := kb BK343 hb
         replace BK344 := kb BK344 hb
         replace HB := hs' HB (by repeat first | (with_reducible exact HB.out) | refine bl1 ?_ | (with_reducible refine bset ?_ ‹_›) | exact HB.out) hb
         (try clear hb); (try clear hb2); (try clear hk); (try clear hi)
         refine hK.out _ _ ⟨(blk_cell BK343.out 0).trans rfl, (blk_cell BK343.out 1).trans rfl, (blk_cell BK344.out 0).trans rfl, (blk_cell BK344.out 1).trans rfl⟩ (fun hHeld => ?_)
         clear hK K
         refine norm_ (a' := ?_) ?_ ?_
         rotate_left
         ·
          show Act.put _ (some 45) _ = _
          simp only [ap]; rfl
         refine one_ (i := 22) (N := some 48) (bA 43 8388607) rfl rfl (one_of HT_.out (by kernel_rfl)) (by decide) (fun K hK => ?_)
         refine goes_ Try.func40 (by kernel_rfl) rfl #[.agg #[.int .i64 a0_0, .int .i64 a0_1], .agg #[.int .i64 a1_0, .int .i64 a1_1]] (by rfl) rfl rfl (by (try simp only [mp]); first | done | rfl | (simp only [ld]; rfl)) ?_
         with_reducible refine (serinetteref01_Mul.calls kj2 a0_0 a0_1 a1_0 a1_1 t361 t362 _ A46.out).mono ?_
         rintro e w64 ⟨rfl, hb⟩
         refine ⟨_, rfl, ?_⟩
         replace BK343 := kb BK343 hb
         replace BK344 := kb BK344 hb
         replace HB := hs' HB (by repeat first | (with_reducible exact HB.out) | refine bl1 ?_ | (with_reducible refine bset ?_ ‹_›) | exact HB.out) hb
         (try clear hb); (try clear hb2); (try clear hk); (try clear hi)
         refine hK.out _ _ ⟨(blk_cell BK343.out 0).trans rfl, (blk_cell BK343.out 1).trans rfl, (blk_cell BK344.out 0).trans rfl, (blk_cell BK344.out 1).trans rfl⟩ (fun hHeld => ?_)
         clear hK K
         refine norm_ (a' := ?_) ?_ ?_
         rotate_left
         ·
          show Act.put _ (some 48) _ = _
          simp only [ap]; rfl
         refine pure_ (i := 23) (N := some 49) (v := ?_) (a' := ?_) (bA 43 16777215) rfl rfl (any_of HT_.out (by kernel_rfl)) (fun _ _ _ h => h) (Or.inl ⟨by rfl, ?_⟩) ?_ ?_
         rotate_left
         ·
          intro w'
          go_simp; with_reducible rfl
         rotate_left
         ·
          simp only [ap]
          rfl
         refine pure_ (i := 24) (N := some 50) (v := ?_) (a' := ?_) (bA 43 33554431) rfl rfl (any_of HT_.out (by kernel_rfl)) (fun _ _ _ h => h) (Or.inl ⟨by rfl, ?_⟩) ?_ ?_
         rotate_left
         ·
          intro w'
          go_simp; with_reducible rfl
         rotate_left
         ·
          simp only [ap]
          rfl
         refine pure_ (i := 25) (N := some 51) (v := ?_) (a' := ?_) (bA 43 67108863) rfl rfl (any_of HT_.out (by kernel_rfl)) (fun _ _ _ h => h) (Or.inl ⟨by rfl, ?_⟩) ?_ ?_
         rotate_left
         ·
          intro w'
          go_simp; with_reducible rfl
         rotate_left
         ·
          simp only [ap]
          rfl
         refine take_ (i := 26) (N := some 52) (v := ?_) (a' := ?_) (bA 43 134217727) rfl rfl (take_ofW HT_.out HW_.out (by kernel_rfl)) (fun _ _ _ h => h) (Or.inl ⟨by rfl, ?_⟩) hHeld ?_ ?_
         rotate_left
         ·
          rintro w' ⟨s0, s1, s2, s3⟩
          go_simp; with_reducible rfl
         rotate_left
         ·
          simp only [ap]
          rfl
         refine take_ (i := 27) (N := some 53) (v := ?_) (a' := ?_) (bA 43 268435455) rfl rfl (take_ofW HT_.out HW_.out (by kernel_rfl)) (fun _ _ _ h => h) (Or.inl ⟨by rfl, ?_⟩) hHeld ?_ ?_
         rotate_left
         ·
          rintro w' ⟨s0, s1, s2, s3⟩
          go_simp; with_reducible rfl
         rotate_left
         ·
          simp only [ap]
          rfl
         refine take_ (i := 29) (N := some 55) (v := ?_) (a' := ?_) (bA 43 805306367) rfl rfl (take_ofW HT_.out HW_.out (by kernel_rfl)) (fun _ _ _ h => h) (Or.inl ⟨by rfl, ?_⟩) hHeld ?_ ?_
         rotate_left
         ·
          rintro w' ⟨s0, s1, s2, s3⟩
          go_simp; with_reducible rfl
         rotate_left
         ·
          simp only [ap]
          rfl
         refine take_ (i := 30) (N := some 56) (v := ?_) (a' := ?_) (bA 43 1879048191) rfl rfl (take_ofW HT_.out HW_.out (by kernel_rfl)) (fun _ _ _ h => h) (Or.inl ⟨by rfl, ?_⟩) hHeld ?_ ?_
         rotate_left
         ·
          rintro w' ⟨s0, s1, s2, s3⟩
          go_simp; with_reducible rfl
         rotate_left
         ·
          simp only [ap]
          rfl
         refine one_ (i := 28) (N := some 54) (bA 43 2147483647) rfl rfl (one_of HT_.out (by kernel_rfl)) (by decide) (fun K hK => ?_)
         refine goes_ Try.func17 (by kernel_rfl) rfl #[.agg #[.int .i64 a0_0, .int .i64 a0_1], .agg #[.int .i64 a1_0, .int .i64 a1_1]] (by rfl) rfl rfl (by (try simp only [mp]); first | done | rfl | (simp only [ld]; rfl)) ?_
         with_reducible refine (ratio_Div.calls kj2 a0_0 a0_1 a1_0 a1_1 t363 t364 _ A55.out).mono ?_
         rintro e w65 ⟨rfl, hb⟩
         refine ⟨_, rfl, ?_⟩
         replace BK343 := kb BK343 hb
         replace BK344 := kb BK344 hb
         replace HB := hs' HB (by repeat first | (with_reducible exact HB.out) | refine bl1 ?_ | (with_reducible refine bset ?_ ‹_›) | exact HB.out) hb
         (try clear hb); (try clear hb2); (try clear hk); (try clear hi)
         refine hK.out _ _ ⟨(blk_cell BK343.out 0).trans rfl, (blk_cell BK343.out 1).trans rfl, (blk_cell BK344.out 0).trans rfl, (blk_cell BK344.out 1).trans rfl⟩ (fun hHeld => ?_)
         clear hK K
         refine norm_ (a' := ?_) ?_ ?_
         rotate_left
         ·
          show Act.put _ (some 54) _ = _
          simp only [ap]; rfl
         refine one_ (i := 31) (N := some 57) (bA 43 4294967295) rfl rfl (one_of HT_.out (by kernel_rfl)) (by decide) (fun K hK => ?_)
         refine goes_ Try.func41 (by kernel_rfl) rfl #[.agg #[.int .i64 a0_0, .int .i64 a0_1], .agg #[.int .i64 a1_0, .int .i64 a1_1]] (by rfl) rfl rfl (by (try simp only [mp]); first | done | rfl | (simp only [ld]; rfl)) ?_
         with_reducible refine (serinetteref01_Div.calls kj2 a0_0 a0_1 a1_0 a1_1 t365 t366 _ A56.out).mono ?_
         rintro e w66 ⟨rfl, hb⟩
         refine ⟨_, rfl, ?_⟩
         replace BK343 := kb BK343 hb
         replace BK344 := kb BK344 hb
         replace HB := hs' HB (by repeat first | (with_reducible exact HB.out) | refine bl1 ?_ | (with_reducible refine bset ?_ ‹_›) | exact HB.out) hb
         (try clear hb); (try clear hb2); (try clear hk); (try clear hi)
         refine hK.out _ _ ⟨(blk_cell BK343.out 0).trans rfl, (blk_cell BK343.out 1).trans rfl, (blk_cell BK344.out 0).trans rfl, (blk_cell BK344.out 1).trans rfl⟩ (fun hHeld => ?_)
         clear hK K
         refine norm_ (a' := ?_) ?_ ?_
         rotate_left
         ·
          show Act.put _ (some 57) _ = _
          simp only [ap]; rfl
         refine pure_ (i := 32) (N := some 58) (v := ?_) (a' := ?_) (bA 43 8589934591) rfl rfl (any_of HT_.out (by kernel_rfl)) (fun _ _ _ h => h) (Or.inl ⟨by rfl, ?_⟩) ?_ ?_
         rotate_left
         ·
          intro w'
          go_simp; with_reducible rfl
         rotate_left
         ·
          simp only [ap]
          rfl
         refine pure_ (i := 33) (N := some 59) (v := ?_) (a' := ?_) (bA 43 17179869183) rfl rfl (any_of HT_.out (by kernel_rfl)) (fun _ _ _ h => h) (Or.inl ⟨by rfl, ?_⟩) ?_ ?_
         rotate_left
         ·
          intro w'
          go_simp; with_reducible rfl
         rotate_left
         ·
          simp only [ap]
          rfl
         refine pure_ (i := 34) (N := some 60) (v := ?_) (a' := ?_) (bA 43 34359738367) rfl rfl (any_of HT_.out (by kernel_rfl)) (fun _ _ _ h => h) (Or.inl ⟨by rfl, ?_⟩) ?_ ?_
         rotate_left
         ·
          intro w'
          go_simp; with_reducible rfl
         rotate_left
         ·
          simp only [ap]
          rfl
         refine pure_ (i := 35) (N := some 61) (v := undef) (a' := ?_) (bA 43 68719476735) rfl rfl (any_of HT_.out (by kernel_rfl)) (fun _ _ _ h => h) (Or.inr ⟨by rfl, rfl⟩) ?_ ?_
         rotate_left
         ·
          simp only [ap]
          rfl
         refine pure_ (i := 36) (N := some 62) (v := undef) (a' := ?_) (bA 43 137438953471) rfl rfl (any_of HT_.out (by kernel_rfl)) (fun _ _ _ h => h) (Or.inr ⟨by rfl, rfl⟩) ?_ ?_
         rotate_left
         ·
          simp only [ap]
          rfl
         refine pure_ (i := 37) (N := some 63) (v := undef) (a' := ?_) (bA 43 274877906943) rfl rfl (any_of HT_.out (by kernel_rfl)) (fun _ _ _ h => h) (Or.inr ⟨by rfl, rfl⟩) ?_ ?_
         rotate_left
         ·
          simp only [ap]
          rfl
         refine pure_ (i := 38) (N := some 64) (v := undef) (a' := ?_) (bA 43 549755813887) rfl rfl (any_of HT_.out (by kernel_rfl)) (fun _ _ _ h => h) (Or.inr ⟨by rfl, rfl⟩) ?_ ?_
         rotate_left
         ·
          simp only [ap]
          rfl
         refine pure_ (i := 39) (N := some 65) (v := undef) (a' := ?_) (bA 43 1099511627775) rfl rfl (any_of HT_.out (by kernel_rfl)) (fun _ _ _ h => h) (Or.inr ⟨by rfl, rfl⟩) ?_ ?_
         rotate_left
         ·
          simp only [ap]
          rfl
         refine pure_ (i := 40) (N := some 66) (v := undef) (a' := ?_) (bA 43 2199023255551) rfl rfl (any_of HT_.out (by kernel_rfl)) (fun _ _ _ h => h) (Or.inr ⟨by rfl, rfl⟩) ?_ ?_
         rotate_left
         ·
          simp only [ap]
          rfl
         refine pure_ (i := 41) (N := some 67) (v := undef) (a' := ?_) (bA 43 4398046511103) rfl rfl (any_of HT_.out (by kernel_rfl)) (fun _ _ _ h => h) (Or.inr ⟨by rfl, rfl⟩) ?_ ?_
         rotate_left
         ·
          simp only [ap]
          rfl
         refine pure_ (i := 42) (N := some 68) (v := ?_) (a' := ?_) (bA 43 8796093022207) rfl rfl (any_of HT_.out (by kernel_rfl)) (fun _ _ _ h => h) (Or.inl ⟨by rfl, ?_⟩) ?_ ?_
         rotate_left
         ·
          intro w'
          go_simp; with_reducible rfl
         rotate_left
         ·
          simp only [ap]
          rfl
         refine done_ (done_of HT_.out (by kernel_rfl)) ?_
         try go_wp2
         go_meet
         case rel => exact ⟨_, (true), (by first | rfl | (simp; done) | (simp [*]; done)), H', ⟨by have := HJ2.out; first | omega | exact Nat.le_refl _⟩, ⟨by refine bk ?_; exact BK343.out⟩, ⟨by refine bk ?_; exact BK344.out⟩, ⟨by repeat first | exact HB.out | refine bset ?_ ‹_› | apply below_alloc | apply pw_below_drewN | apply below_drew1⟩⟩
        ·
         rw [if_neg c57] at H
         have c57b0 : (!(t363 == t365) || (!(t364 == t366))) = false := by simpa using c57
         clear c57
         replace H := Option.bind_eq_some_iff.mp H
         obtain ⟨⟨t367, t368⟩, A670, H⟩ := H
         (try dsimp only at H)
         have A67 := Aside0.mk A670
         clear A670
         replace H := Option.bind_eq_some_iff.mp H
         obtain ⟨⟨t369, t370⟩, A680, H⟩ := H
         (try dsimp only at H)
         have A68 := Aside0.mk A680
         clear A680
         have H' := Aside0.mk H
         clear H
         try go_wp2
         replace BK343 := kd BK343
         replace BK344 := kd BK344
         replace HB := Aside0.mk (below_drew1 HB.out)
         refine start_ (n := 43) (S := fun w' => w'.cell? ⟨gb343, 0, none⟩ = some (.int .i64 a0_0) ∧ w'.cell? ⟨gb343, 1, none⟩ = some (.int .i64 a0_1) ∧ w'.cell? ⟨gb344, 0, none⟩ = some (.int .i64 a1_0) ∧ w'.cell? ⟨gb344, 1, none⟩ = some (.int .i64 a1_1)) (ds := []) (bA 43 0) (by kernel_rfl) rfl rfl ⟨(blk_cell BK343.out 0).trans rfl, (blk_cell BK343.out 1).trans rfl, (blk_cell BK344.out 0).trans rfl, (blk_cell BK344.out 1).trans rfl⟩ (fun hHeld => ?_); refine with_tabW serinettelaw01_NumberSays.tab3 serinettelaw01_NumberSays.bits3 (fun HT_ HW_ => ?_)
         generalize wc.drew = w69 at BK343 BK344 HB hHeld ⊢
         refine take_ (i := 0) (N := some 26) (v := ?_) (a' := ?_) (bA 43 1) rfl rfl (take_ofW HT_.out HW_.out (by kernel_rfl)) (fun _ _ _ h => h) (Or.inl ⟨by rfl, ?_⟩) hHeld ?_ ?_
         rotate_left
         ·
          rintro w' ⟨s0, s1, s2, s3⟩
          go_simp; with_reducible rfl
         rotate_left
         ·
          simp only [ap]
          rfl
         refine take_ (i := 1) (N := some 27) (v := ?_) (a' := ?_) (bA 43 3) rfl rfl (take_ofW HT_.out HW_.out (by kernel_rfl)) (fun _ _ _ h => h) (Or.inl ⟨by rfl, ?_⟩) hHeld ?_ ?_
         rotate_left
         ·
          rintro w' ⟨s0, s1, s2, s3⟩
          go_simp; with_reducible rfl
         rotate_left
         ·
          simp only [ap]
          rfl
         refine take_ (i := 3) (N := some 29) (v := ?_) (a' := ?_) (bA 43 11) rfl rfl (take_ofW HT_.out HW_.out (by kernel_rfl)) (fun _ _ _ h => h) (Or.inl ⟨by rfl, ?_⟩) hHeld ?_ ?_
         rotate_left
         ·
          rintro w' ⟨s0, s1, s2, s3⟩
          go_simp; with_reducible rfl
         rotate_left
         ·
          simp only [ap]
          rfl
         refine take_ (i := 4) (N := some 30) (v := ?_) (a' := ?_) (bA 43 27) rfl rfl (take_ofW HT_.out HW_.out (by kernel_rfl)) (fun _ _ _ h => h) (Or.inl ⟨by rfl, ?_⟩) hHeld ?_ ?_
         rotate_left
         ·
          rintro w' ⟨s0, s1, s2, s3⟩
          go_simp; with_reducible rfl
         rotate_left
         ·
          simp only [ap]
          rfl
         refine one_ (i := 2) (N := some 28) (bA 43 31) rfl rfl (one_of HT_.out (by kernel_rfl)) (by decide) (fun K hK => ?_)
         refine goes_ Try.func12 (by kernel_rfl) rfl #[.agg #[.int .i64 a0_0, .int .i64 a0_1], .agg #[.int .i64 a1_0, .int .i64 a1_1]] (by rfl) rfl rfl (by (try simp only [mp]); first | done | rfl | (simp only [ld]; rfl)) ?_
         with_reducible refine (ratio_Add.calls kj2 a0_0 a0_1 a1_0 a1_1 t351 t352 _ A31.out).mono ?_
         rintro e w70 ⟨rfl, hb⟩
         refine ⟨_, rfl, ?_⟩
         replace BK343 := kb BK343 hb
         replace BK344 := kb BK344 hb
         replace HB := hs' HB (by repeat first | (with_reducible exact HB.out) | refine bl1 ?_ | (with_reducible refine bset ?_ ‹_›) | exact HB.out) hb
         (try clear hb); (try clear hb2); (try clear hk); (try clear hi)
         refine hK.out _ _ ⟨(blk_cell BK343.out 0).trans rfl, (blk_cell BK343.out 1).trans rfl, (blk_cell BK344.out 0).trans rfl, (blk_cell BK344.out 1).trans rfl⟩ (fun hHeld => ?_)
         clear hK K
         refine norm_ (a' := ?_) ?_ ?_
         rotate_left
         ·
          show Act.put _ (some 28) _ = _
          simp only [ap]; rfl
         refine one_ (i := 5) (N := some 31) (bA 43 63) rfl rfl (one_of HT_.out (by kernel_rfl)) (by decide) (fun K hK => ?_)
         refine goes_ Try.func38 (by kernel_rfl) rfl #[.agg #[.int .i64 a0_0, .int .i64 a0_1], .agg #[.int .i64 a1_0, .int .i64 a1_1]] (by rfl) rfl rfl (by (try simp only [mp]); first | done | rfl | (simp only [ld]; rfl)) ?_
         with_reducible refine (serinetteref01_Add.calls kj2 a0_0 a0_1 a1_0 a1_1 t353 t354 _ A32.out).mono ?_
         rintro e w71 ⟨rfl, hb⟩
         refine ⟨_, rfl, ?_⟩
         replace BK343 := kb BK343 hb
         replace BK344 := kb BK344 hb
         replace HB := hs' HB (by repeat first | (with_reducible exact HB.out) | refine bl1 ?_ | (with_reducible refine bset ?_ ‹_›) | exact HB.out) hb
         (try clear hb); (try clear hb2); (try clear hk); (try clear hi)
         refine hK.out _ _ ⟨(blk_cell BK343.out 0).trans rfl, (blk_cell BK343.out 1).trans rfl, (blk_cell BK344.out 0).trans rfl, (blk_cell BK344.out 1).trans rfl⟩ (fun hHeld => ?_)
         clear hK K
         refine norm_ (a' := ?_) ?_ ?_
         rotate_left
         ·
          show Act.put _ (some 31) _ = _
          simp only [ap]; rfl
         refine pure_ (i := 6) (N := some 32) (v := ?_) (a' := ?_) (bA 43 127) rfl rfl (any_of HT_.out (by kernel_rfl)) (fun _ _ _ h => h) (Or.inl ⟨by rfl, ?_⟩) ?_ ?_
         rotate_left
         ·
          intro w'
          go_simp; with_reducible rfl
         rotate_left
         ·
          simp only [ap]
          rfl
         refine pure_ (i := 7) (N := some 33) (v := ?_) (a' := ?_) (bA 43 255) rfl rfl (any_of HT_.out (by kernel_rfl)) (fun _ _ _ h => h) (Or.inl ⟨by rfl, ?_⟩) ?_ ?_
         rotate_left
         ·
          intro w'
          go_simp; with_reducible rfl
         rotate_left
         ·
          simp only [ap]
          rfl
         refine take_ (i := 8) (N := some 34) (v := ?_) (a' := ?_) (bA 43 511) rfl rfl (take_ofW HT_.out HW_.out (by kernel_rfl)) (fun _ _ _ h => h) (Or.inl ⟨by rfl, ?_⟩) hHeld ?_ ?_
         rotate_left
         ·
          rintro w' ⟨s0, s1, s2, s3⟩
          go_simp; with_reducible rfl
         rotate_left
         ·
          simp only [ap]
          rfl
         refine take_ (i := 9) (N := some 35) (v := ?_) (a' := ?_) (bA 43 1023) rfl rfl (take_ofW HT_.out HW_.out (by kernel_rfl)) (fun _ _ _ h => h) (Or.inl ⟨by rfl, ?_⟩) hHeld ?_ ?_
         rotate_left
         ·
          rintro w' ⟨s0, s1, s2, s3⟩
          go_simp; with_reducible rfl
         rotate_left
         ·
          simp only [ap]
          rfl
         refine take_ (i := 11) (N := some 37) (v := ?_) (a' := ?_) (bA 43 3071) rfl rfl (take_ofW HT_.out HW_.out (by kernel_rfl)) (fun _ _ _ h => h) (Or.inl ⟨by rfl, ?_⟩) hHeld ?_ ?_
         rotate_left
         ·
          rintro w' ⟨s0, s1, s2, s3⟩
          go_simp; with_reducible rfl
         rotate_left
         ·
          simp only [ap]
          rfl
         refine take_ (i := 12) (N := some 38) (v := ?_) (a' := ?_) (bA 43 7167) rfl rfl (take_ofW HT_.out HW_.out (by kernel_rfl)) (fun _ _ _ h => h) (Or.inl ⟨by rfl, ?_⟩) hHeld ?_ ?_
         rotate_left
         ·
          rintro w' ⟨s0, s1, s2, s3⟩
          go_simp; with_reducible rfl
         rotate_left
         ·
          simp only [ap]
          rfl
         refine one_ (i := 10) (N := some 36) (bA 43 8191) rfl rfl (one_of HT_.out (by kernel_rfl)) (by decide) (fun K hK => ?_)
         refine goes_ Try.func32 (by kernel_rfl) rfl #[.agg #[.int .i64 a0_0, .int .i64 a0_1], .agg #[.int .i64 a1_0, .int .i64 a1_1]] (by rfl) rfl rfl (by (try simp only [mp]); first | done | rfl | (simp only [ld]; rfl)) ?_
         with_reducible refine (ratio_Sub.calls kj2 a0_0 a0_1 a1_0 a1_1 t355 t356 _ A37.out).mono ?_
         rintro e w72 ⟨rfl, hb⟩
         refine ⟨_, rfl, ?_⟩
         replace BK343 := kb BK343 hb
         replace BK344 := kb BK344 hb
         replace HB := hs' HB (by repeat first | (with_reducible exact HB.out) | refine bl1 ?_ | (with_reducible refine bset ?_ ‹_›) | exact HB.out) hb
         (try clear hb); (try clear hb2); (try clear hk); (try clear hi)
         refine hK.out _ _ ⟨(blk_cell BK343.out 0).trans rfl, (blk_cell BK343.out 1).trans rfl, (blk_cell BK344.out 0).trans rfl, (blk_cell BK344.out 1).trans rfl⟩ (fun hHeld => ?_)
         clear hK K
         refine norm_ (a' := ?_) ?_ ?_
         rotate_left
         ·
          show Act.put _ (some 36) _ = _
          simp only [ap]; rfl
         refine one_ (i := 13) (N := some 39) (bA 43 16383) rfl rfl (one_of HT_.out (by kernel_rfl)) (by decide) (fun K hK => ?_)
         refine goes_ Try.func39 (by kernel_rfl) rfl #[.agg #[.int .i64 a0_0, .int .i64 a0_1], .agg #[.int .i64 a1_0, .int .i64 a1_1]] (by rfl) rfl rfl (by (try simp only [mp]); first | done | rfl | (simp only [ld]; rfl)) ?_
         with_reducible refine (serinetteref01_Sub.calls kj2 a0_0 a0_1 a1_0 a1_1 t357 t358 _ A38.out).mono ?_
         rintro e w73 ⟨rfl, hb⟩
         refine ⟨_, rfl, ?_⟩
         replace BK343 := kb BK343 hb
         replace BK344 := kb BK344 hb
         replace HB := hs' HB (by repeat first | (with_reducible exact HB.out) | refine bl1 ?_ | (with_reducible refine bset ?_ ‹_›) | exact HB.out) hb
         (try clear hb); (try clear hb2); (try clear hk); (try clear hi)
         refine hK.out _ _ ⟨(blk_cell BK343.out 0).trans rfl, (blk_cell BK343.out 1).trans rfl, (blk_cell BK344.out 0).trans rfl, (blk_cell BK344.out 1).trans rfl⟩ (fun hHeld => ?_)
         clear hK K
         refine norm_ (a' := ?_) ?_ ?_
         rotate_left
         ·
          show Act.put _ (some 39) _ = _
          simp only [ap]; rfl
         refine pure_ (i := 14) (N := some 40) (v := ?_) (a' := ?_) (bA 43 32767) rfl rfl (any_of HT_.out (by kernel_rfl)) (fun _ _ _ h => h) (Or.inl ⟨by rfl, ?_⟩) ?_ ?_
         rotate_left
         ·
          intro w'
          go_simp; with_reducible rfl
         rotate_left
         ·
          simp only [ap]
          rfl
         refine pure_ (i := 15) (N := some 41) (v := ?_) (a' := ?_) (bA 43 65535) rfl rfl (any_of HT_.out (by kernel_rfl)) (fun _ _ _ h => h) (Or.inl ⟨by rfl, ?_⟩) ?_ ?_
         rotate_left
         ·
          intro w'
          go_simp; with_reducible rfl
         rotate_left
         ·
          simp only [ap]
          rfl
         refine pure_ (i := 16) (N := some 42) (v := ?_) (a' := ?_) (bA 43 131071) rfl rfl (any_of HT_.out (by kernel_rfl)) (fun _ _ _ h => h) (Or.inl ⟨by rfl, ?_⟩) ?_ ?_
         rotate_left
         ·
          intro w'
          go_simp; with_reducible rfl
         rotate_left
         ·
          simp only [ap]
          rfl
         refine take_ (i := 17) (N := some 43) (v := ?_) (a' := ?_) (bA 43 262143) rfl rfl (take_ofW HT_.out HW_.out (by kernel_rfl)) (fun _ _ _ h => h) (Or.inl ⟨by rfl, ?_⟩) hHeld ?_ ?_
         rotate_left
         ·
          rintro w' ⟨s0, s1, s2, s3⟩
          go_simp; with_reducible rfl
         rotate_left
         ·
          simp only [ap]
          rfl
         refine take_ (i := 18) (N := some 44) (v := ?_) (a' := ?_) (bA 43 524287) rfl rfl (take_ofW HT_.out HW_.out (by kernel_rfl)) (fun _ _ _ h => h) (Or.inl ⟨by rfl, ?_⟩) hHeld ?_ ?_
         rotate_left
         ·
          rintro w' ⟨s0, s1, s2, s3⟩
          go_simp; with_reducible rfl
         rotate_left
         ·
          simp only [ap]
          rfl
         refine take_ (i := 20) (N := some 46) (v := ?_) (a' := ?_) (bA 43 1572863) rfl rfl (take_ofW HT_.out HW_.out (by kernel_rfl)) (fun _ _ _ h => h) (Or.inl ⟨by rfl, ?_⟩) hHeld ?_ ?_
         rotate_left
         ·
          rintro w' ⟨s0, s1, s2, s3⟩
          go_simp; with_reducible rfl
         rotate_left
         ·
          simp only [ap]
          rfl
         refine take_ (i := 21) (N := some 47) (v := ?_) (a' := ?_) (bA 43 3670015) rfl rfl (take_ofW HT_.out HW_.out (by kernel_rfl)) (fun _ _ _ h => h) (Or.inl ⟨by rfl, ?_⟩) hHeld ?_ ?_
         rotate_left
         ·
          rintro w' ⟨s0, s1, s2, s3⟩
          go_simp; with_reducible rfl
         rotate_left
         ·
          simp only [ap]
          rfl
         refine one_ (i := 19) (N := some 45) (bA 43 4194303) rfl rfl (one_of HT_.out (by kernel_rfl)) (by decide) (fun K hK => ?_)
         refine goes_ Try.func13 (by kernel_rfl) rfl #[.agg #[.int .i64 a0_0, .int .i64 a0_1], .agg #[.int .i64 a1_0, .int .i64 a1_1]] (by rfl) rfl rfl (by (try simp only [mp]); first | done | rfl | (simp only [ld]; rfl)) ?_
         with_reducible refine (ratio_Mul.calls kj2 a0_0 a0_1 a1_0 a1_1 t359 t360 _ A45.out).mono ?_
         rintro e w74 ⟨rfl, hb⟩
         refine ⟨_, rfl, ?_⟩
         replace BK343 := kb BK343 hb
         replace BK344 := kb BK344 hb
         replace HB := hs' HB (by repeat first | (with_reducible exact HB.out) | refine bl1 ?_ | (with_reducible refine bset ?_ ‹_›) | exact HB.out) hb
         (try clear hb); (try clear hb2); (try clear hk); (try clear hi)
         refine hK.out _ _ ⟨(blk_cell BK343.out 0).trans rfl, (blk_cell BK343.out 1).trans rfl, (blk_cell BK344.out 0).trans rfl, (blk_cell BK344.out 1).trans rfl⟩ (fun hHeld => ?_)
         clear hK K
         refine norm_ (a' := ?_) ?_ ?_
         rotate_left
         ·
          show Act.put _ (some 45) _ = _
          simp only [ap]; rfl
         refine one_ (i := 22) (N := some 48) (bA 43 8388607) rfl rfl (one_of HT_.out (by kernel_rfl)) (by decide) (fun K hK => ?_)
         refine goes_ Try.func40 (by kernel_rfl) rfl #[.agg #[.int .i64 a0_0, .int .i64 a0_1], .agg #[.int .i64 a1_0, .int .i64 a1_1]] (by rfl) rfl rfl (by (try simp only [mp]); first | done | rfl | (simp only [ld]; rfl)) ?_
         with_reducible refine (serinetteref01_Mul.calls kj2 a0_0 a0_1 a1_0 a1_1 t361 t362 _ A46.out).mono ?_
         rintro e w75 ⟨rfl, hb⟩
         refine ⟨_, rfl, ?_⟩
         replace BK343 := kb BK343 hb
         replace BK344 := kb BK344 hb
         replace HB := hs' HB (by repeat first | (with_reducible exact HB.out) | refine bl1 ?_ | (with_reducible refine bset ?_ ‹_›) | exact HB.out) hb
         (try clear hb); (try clear hb2); (try clear hk); (try clear hi)
         refine hK.out _ _ ⟨(blk_cell BK343.out 0).trans rfl, (blk_cell BK343.out 1).trans rfl, (blk_cell BK344.out 0).trans rfl, (blk_cell BK344.out 1).trans rfl⟩ (fun hHeld => ?_)
         clear hK K
         refine norm_ (a' := ?_) ?_ ?_
         rotate_left
         ·
          show Act.put _ (some 48) _ = _
          simp only [ap]; rfl
         refine pure_ (i := 23) (N := some 49) (v := ?_) (a' := ?_) (bA 43 16777215) rfl rfl (any_of HT_.out (by kernel_rfl)) (fun _ _ _ h => h) (Or.inl ⟨by rfl, ?_⟩) ?_ ?_
         rotate_left
         ·
          intro w'
          go_simp; with_reducible rfl
         rotate_left
         ·
          simp only [ap]
          rfl
         refine pure_ (i := 24) (N := some 50) (v := ?_) (a' := ?_) (bA 43 33554431) rfl rfl (any_of HT_.out (by kernel_rfl)) (fun _ _ _ h => h) (Or.inl ⟨by rfl, ?_⟩) ?_ ?_
         rotate_left
         ·
          intro w'
          go_simp; with_reducible rfl
         rotate_left
         ·
          simp only [ap]
          rfl
         refine pure_ (i := 25) (N := some 51) (v := ?_) (a' := ?_) (bA 43 67108863) rfl rfl (any_of HT_.out (by kernel_rfl)) (fun _ _ _ h => h) (Or.inl ⟨by rfl, ?_⟩) ?_ ?_
         rotate_left
         ·
          intro w'
          go_simp; with_reducible rfl
         rotate_left
         ·
          simp only [ap]
          rfl
         refine take_ (i := 26) (N := some 52) (v := ?_) (a' := ?_) (bA 43 134217727) rfl rfl (take_ofW HT_.out HW_.out (by kernel_rfl)) (fun _ _ _ h => h) (Or.inl ⟨by rfl, ?_⟩) hHeld ?_ ?_
         rotate_left
         ·
          rintro w' ⟨s0, s1, s2, s3⟩
          go_simp; with_reducible rfl
         rotate_left
         ·
          simp only [ap]
          rfl
         refine take_ (i := 27) (N := some 53) (v := ?_) (a' := ?_) (bA 43 268435455) rfl rfl (take_ofW HT_.out HW_.out (by kernel_rfl)) (fun _ _ _ h => h) (Or.inl ⟨by rfl, ?_⟩) hHeld ?_ ?_
         rotate_left
         ·
          rintro w' ⟨s0, s1, s2, s3⟩
          go_simp; with_reducible rfl
         rotate_left
         ·
          simp only [ap]
          rfl
         refine take_ (i := 29) (N := some 55) (v := ?_) (a' := ?_) (bA 43 805306367) rfl rfl (take_ofW HT_.out HW_.out (by kernel_rfl)) (fun _ _ _ h => h) (Or.inl ⟨by rfl, ?_⟩) hHeld ?_ ?_
         rotate_left
         ·
          rintro w' ⟨s0, s1, s2, s3⟩
          go_simp; with_reducible rfl
         rotate_left
         ·
          simp only [ap]
          rfl
         refine take_ (i := 30) (N := some 56) (v := ?_) (a' := ?_) (bA 43 1879048191) rfl rfl (take_ofW HT_.out HW_.out (by kernel_rfl)) (fun _ _ _ h => h) (Or.inl ⟨by rfl, ?_⟩) hHeld ?_ ?_
         rotate_left
         ·
          rintro w' ⟨s0, s1, s2, s3⟩
          go_simp; with_reducible rfl
         rotate_left
         ·
          simp only [ap]
          rfl
         refine one_ (i := 28) (N := some 54) (bA 43 2147483647) rfl rfl (one_of HT_.out (by kernel_rfl)) (by decide) (fun K hK => ?_)
         refine goes_ Try.func17 (by kernel_rfl) rfl #[.agg #[.int .i64 a0_0, .int .i64 a0_1], .agg #[.int .i64 a1_0, .int .i64 a1_1]] (by rfl) rfl rfl (by (try simp only [mp]); first | done | rfl | (simp only [ld]; rfl)) ?_
         with_reducible refine (ratio_Div.calls kj2 a0_0 a0_1 a1_0 a1_1 t363 t364 _ A55.out).mono ?_
         rintro e w76 ⟨rfl, hb⟩
         refine ⟨_, rfl, ?_⟩
         replace BK343 := kb BK343 hb
         replace BK344 := kb BK344 hb
         replace HB := hs' HB (by repeat first | (with_reducible exact HB.out) | refine bl1 ?_ | (with_reducible refine bset ?_ ‹_›) | exact HB.out) hb
         (try clear hb); (try clear hb2); (try clear hk); (try clear hi)
         refine hK.out _ _ ⟨(blk_cell BK343.out 0).trans rfl, (blk_cell BK343.out 1).trans rfl, (blk_cell BK344.out 0).trans rfl, (blk_cell BK344.out 1).trans rfl⟩ (fun hHeld => ?_)
         clear hK K
         refine norm_ (a' := ?_) ?_ ?_
         rotate_left
         ·
          show Act.put _ (some 54) _ = _
          simp only [ap]; rfl
         refine one_ (i := 31) (N := some 57) (bA 43 4294967295) rfl rfl (one_of HT_.out (by kernel_rfl)) (by decide) (fun K hK => ?_)
         refine goes_ Try.func41 (by kernel_rfl) rfl #[.agg #[.int .i64 a0_0, .int .i64 a0_1], .agg #[.int .i64 a1_0, .int .i64 a1_1]] (by rfl) rfl rfl (by (try simp only [mp]); first | done | rfl | (simp only [ld]; rfl)) ?_
         with_reducible refine (serinetteref01_Div.calls kj2 a0_0 a0_1 a1_0 a1_1 t365 t366 _ A56.out).mono ?_
         rintro e w77 ⟨rfl, hb⟩
         refine ⟨_, rfl, ?_⟩
         replace BK343 := kb BK343 hb
         replace BK344 := kb BK344 hb
         replace HB := hs' HB (by repeat first | (with_reducible exact HB.out) | refine bl1 ?_ | (with_reducible refine bset ?_ ‹_›) | exact HB.out) hb
         (try clear hb); (try clear hb2); (try clear hk); (try clear hi)
         refine hK.out _ _ ⟨(blk_cell BK343.out 0).trans rfl, (blk_cell BK343.out 1).trans rfl, (blk_cell BK344.out 0).trans rfl, (blk_cell BK344.out 1).trans rfl⟩ (fun hHeld => ?_)
         clear hK K
         refine norm_ (a' := ?_) ?_ ?_
         rotate_left
         ·
          show Act.put _ (some 57) _ = _
          simp only [ap]; rfl
         refine pure_ (i := 32) (N := some 58) (v := ?_) (a' := ?_) (bA 43 8589934591) rfl rfl (any_of HT_.out (by kernel_rfl)) (fun _ _ _ h => h) (Or.inl ⟨by rfl, ?_⟩) ?_ ?_
         rotate_left
         ·
          intro w'
          go_simp; with_reducible rfl
         rotate_left
         ·
          simp only [ap]
          rfl
         refine pure_ (i := 33) (N := some 59) (v := ?_) (a' := ?_) (bA 43 17179869183) rfl rfl (any_of HT_.out (by kernel_rfl)) (fun _ _ _ h => h) (Or.inl ⟨by rfl, ?_⟩) ?_ ?_
         rotate_left
         ·
          intro w'
          go_simp; with_reducible rfl
         rotate_left
         ·
          simp only [ap]
          rfl
         refine pure_ (i := 34) (N := some 60) (v := ?_) (a' := ?_) (bA 43 34359738367) rfl rfl (any_of HT_.out (by kernel_rfl)) (fun _ _ _ h => h) (Or.inl ⟨by rfl, ?_⟩) ?_ ?_
         rotate_left
         ·
          intro w'
          go_simp; with_reducible rfl
         rotate_left
         ·
          simp only [ap]
          rfl
         refine take_ (i := 35) (N := some 61) (v := ?_) (a' := ?_) (bA 43 68719476735) rfl rfl (take_ofW HT_.out HW_.out (by kernel_rfl)) (fun _ _ _ h => h) (Or.inl ⟨by rfl, ?_⟩) hHeld ?_ ?_
         rotate_left
         ·
          rintro w' ⟨s0, s1, s2, s3⟩
          go_simp; with_reducible rfl
         rotate_left
         ·
          simp only [ap]
          rfl
         refine take_ (i := 36) (N := some 62) (v := ?_) (a' := ?_) (bA 43 137438953471) rfl rfl (take_ofW HT_.out HW_.out (by kernel_rfl)) (fun _ _ _ h => h) (Or.inl ⟨by rfl, ?_⟩) hHeld ?_ ?_
         rotate_left
         ·
          rintro w' ⟨s0, s1, s2, s3⟩
          go_simp; with_reducible rfl
         rotate_left
         ·
          simp only [ap]
          rfl
         refine take_ (i := 38) (N := some 64) (v := ?_) (a' := ?_) (bA 43 412316860415) rfl rfl (take_ofW HT_.out HW_.out (by kernel_rfl)) (fun _ _ _ h => h) (Or.inl ⟨by rfl, ?_⟩) hHeld ?_ ?_
         rotate_left
         ·
          rintro w' ⟨s0, s1, s2, s3⟩
          go_simp; with_reducible rfl
         rotate_left
         ·
          simp only [ap]
          rfl
         refine take_ (i := 39) (N := some 65) (v := ?_) (a' := ?_) (bA 43 962072674303) rfl rfl (take_ofW HT_.out HW_.out (by kernel_rfl)) (fun _ _ _ h => h) (Or.inl ⟨by rfl, ?_⟩) hHeld ?_ ?_
         rotate_left
         ·
          rintro w' ⟨s0, s1, s2, s3⟩
          go_simp; with_reducible rfl
         rotate_left
         ·
          simp only [ap]
          rfl
         refine one_ (i := 37) (N := some 63) (bA 43 1099511627775) rfl rfl (one_of HT_.out (by kernel_rfl)) (by decide) (fun K hK => ?_)
         refine goes_ Try.func16 (by kernel_rfl) rfl #[.agg #[.int .i64 a0_0, .int .i64 a0_1], .agg #[.int .i64 a1_0, .int .i64 a1_1]] (by rfl) rfl rfl (by (try simp only [mp]); first | done | rfl | (simp only [ld]; rfl)) ?_
         with_reducible refine (ratio_Mod.calls kj2 a0_0 a0_1 a1_0 a1_1 t367 t368 _ A67.out).mono ?_
         rintro e w78 ⟨rfl, hb⟩
         refine ⟨_, rfl, ?_⟩
         replace BK343 := kb BK343 hb
         replace BK344 := kb BK344 hb
         replace HB := hs' HB (by repeat first | (with_reducible exact HB.out) | refine bl1 ?_ | (with_reducible refine bset ?_ ‹_›) | exact HB.out) hb
         (try clear hb); (try clear hb2); (try clear hk); (try clear hi)
         refine hK.out _ _ ⟨(blk_cell BK343.out 0).trans rfl, (blk_cell BK343.out 1).trans rfl, (blk_cell BK344.out 0).trans rfl, (blk_cell BK344.out 1).trans rfl⟩ (fun hHeld => ?_)
         clear hK K
         refine norm_ (a' := ?_) ?_ ?_
         rotate_left
         ·
          show Act.put _ (some 63) _ = _
          simp only [ap]; rfl
         refine one_ (i := 40) (N := some 66) (bA 43 2199023255551) rfl rfl (one_of HT_.out (by kernel_rfl)) (by decide) (fun K hK => ?_)
         refine goes_ Try.func42 (by kernel_rfl) rfl #[.agg #[.int .i64 a0_0, .int .i64 a0_1], .agg #[.int .i64 a1_0, .int .i64 a1_1]] (by rfl) rfl rfl (by (try simp only [mp]); first | done | rfl | (simp only [ld]; rfl)) ?_
         with_reducible refine (serinetteref01_Mod.calls kj2 a0_0 a0_1 a1_0 a1_1 t369 t370 _ A68.out).mono ?_
         rintro e w79 ⟨rfl, hb⟩
         refine ⟨_, rfl, ?_⟩
         replace BK343 := kb BK343 hb
         replace BK344 := kb BK344 hb
         replace HB := hs' HB (by repeat first | (with_reducible exact HB.out) | refine bl1 ?_ | (with_reducible refine bset ?_ ‹_›) | exact HB.out) hb
         (try clear hb); (try clear hb2); (try clear hk); (try clear hi)
         refine hK.out _ _ ⟨(blk_cell BK343.out 0).trans rfl, (blk_cell BK343.out 1).trans rfl, (blk_cell BK344.out 0).trans rfl, (blk_cell BK344.out 1).trans rfl⟩ (fun hHeld => ?_)
         clear hK K
         refine norm_ (a' := ?_) ?_ ?_
         rotate_left
         ·
          show Act.put _ (some 66) _ = _
          simp only [ap]; rfl
         refine pure_ (i := 41) (N := some 67) (v := ?_) (a' := ?_) (bA 43 4398046511103) rfl rfl (any_of HT_.out (by kernel_rfl)) (fun _ _ _ h => h) (Or.inl ⟨by rfl, ?_⟩) ?_ ?_
         rotate_left
         ·
          intro w'
          go_simp; with_reducible rfl
         rotate_left
         ·
          simp only [ap]
          rfl
         refine pure_ (i := 42) (N := some 68) (v := ?_) (a' := ?_) (bA 43 8796093022207) rfl rfl (any_of HT_.out (by kernel_rfl)) (fun _ _ _ h => h) (Or.inl ⟨by rfl, ?_⟩) ?_ ?_
         rotate_left
         ·
          intro w'
          go_simp; with_reducible rfl
         rotate_left
         ·
          simp only [ap]
          rfl
         refine done_ (done_of HT_.out (by kernel_rfl)) ?_
         try go_wp2
         go_meet
         case rel => exact ⟨_, ((!(t367 == t369) || (!(t368 == t370)))), (by first | rfl | (simp; done) | (simp [*]; done)), H', ⟨by have := HJ2.out; first | omega | exact Nat.le_refl _⟩, ⟨by refine bk ?_; exact BK343.out⟩, ⟨by refine bk ?_; exact BK344.out⟩, ⟨by repeat first | exact HB.out | refine bset ?_ ‹_› | apply below_alloc | apply pw_below_drewN | apply below_drew1⟩⟩
    case rest =>
     clear HC30
     (try clear c1); (try clear p2); (try clear c3); (try clear c4); (try clear c5); (try clear c12); (try clear c13); (try clear c16); (try clear c17); (try clear c32); (try clear c38); (try clear c39); (try clear c40); (try clear c41); (try clear c42); (try clear c57); (try clear c57b0)
     obtain ⟨kq, x68_29, rfl, HA, HJ29, BK343, BK344, HB⟩ := hcut
     cases kq with
     | zero => exact absurd HA.out (by simp [serinettelaw01_NumberSays.j1])
     | succ kj29 =>
      have H := HA.out
      clear HA
      simp only [serinettelaw01_NumberSays.j1] at H
      by_cases c80 : x68_29 = true
      ·
       subst c80
       rw [if_pos rfl] at H
       exact absurd (H.trans (congrArg some hr.out)) (by simp)
      ·
       replace c80 := Bool.eq_false_iff.mpr c80
       subst c80
       rw [if_neg (show ¬ (false = true) by decide)] at H
       have HC81 := Aside0.mk H
       clear H
       go_upto_region 5 with (fail)
       go_cut [101] (fun v101 wc => ∃ (kq : Nat) (x101_80 : Bool), v101 = .bool x101_80 ∧ Aside0 (serinettelaw01_NumberSays.j2 kq x101_80 a0_0 a0_1 a1_0 a1_1 = some r) ∧ Aside0 (kq ≤ kj29) ∧ Aside0 (wc.heap[gb343]? = some (.cells #[.int .i64 a0_0, .int .i64 a0_1] 24 (0, 0))) ∧ Aside0 (wc.heap[gb344]? = some (.cells #[.int .i64 a1_0, .int .i64 a1_1] 24 (0, 0))) ∧ Aside0 (Below w.heap.size w wc))
       case first =>
        have H := HC81.out
        clear HC81
        replace H := Option.bind_eq_some_iff.mp H
        obtain ⟨⟨t371, t372⟩, A820, H⟩ := H
        (try dsimp only at H)
        have A82 := Aside0.mk A820
        clear A820
        replace H := Option.bind_eq_some_iff.mp H
        obtain ⟨⟨t373, t374⟩, A830, H⟩ := H
        (try dsimp only at H)
        have A83 := Aside0.mk A830
        clear A830
        by_cases c84 : (!(t371 == t373) || (!(t372 == t374))) = true
        ·
         rw [if_pos c84] at H
         have c84b0 : (!(t371 == t373) || (!(t372 == t374))) = true := c84
         clear c84
         (first | rw [c84b0] | (simp only [i64_w, i32_w]; rw [c84b0]) | skip)
         have H' := Aside0.mk H
         clear H
         try go_wp2
         replace BK343 := kd BK343
         replace BK344 := kd BK344
         replace HB := Aside0.mk (below_drew1 HB.out)
         refine start_ (n := 33) (S := fun w' => w'.cell? ⟨gb343, 0, none⟩ = some (.int .i64 a0_0) ∧ w'.cell? ⟨gb343, 1, none⟩ = some (.int .i64 a0_1)) (ds := []) (bA 33 0) (by kernel_rfl) rfl rfl ⟨(blk_cell BK343.out 0).trans rfl, (blk_cell BK343.out 1).trans rfl⟩ (fun hHeld => ?_); refine with_tabW serinettelaw01_NumberSays.tab5 serinettelaw01_NumberSays.bits5 (fun HT_ HW_ => ?_)
         generalize wc.drew = w85 at BK343 BK344 HB hHeld ⊢
         refine take_ (i := 0) (N := some 69) (v := ?_) (a' := ?_) (bA 33 1) rfl rfl (take_ofW HT_.out HW_.out (by kernel_rfl)) (fun _ _ _ h => h) (Or.inl ⟨by rfl, ?_⟩) hHeld ?_ ?_
         rotate_left
         ·
          rintro w' ⟨s0, s1⟩
          go_simp; with_reducible rfl
         rotate_left
         ·
          simp only [ap]
          rfl
         refine take_ (i := 2) (N := some 71) (v := ?_) (a' := ?_) (bA 33 5) rfl rfl (take_ofW HT_.out HW_.out (by kernel_rfl)) (fun _ _ _ h => h) (Or.inl ⟨by rfl, ?_⟩) hHeld ?_ ?_
         rotate_left
         ·
          rintro w' ⟨s0, s1⟩
          go_simp; with_reducible rfl
         rotate_left
         ·
          simp only [ap]
          rfl
         refine one_ (i := 1) (N := some 70) (bA 33 7) rfl rfl (one_of HT_.out (by kernel_rfl)) (by decide) (fun K hK => ?_)
         refine goes_ Try.func43 (by kernel_rfl) rfl #[.agg #[.int .i64 a0_0, .int .i64 a0_1]] (by rfl) rfl rfl (by (try simp only [mp]); first | done | rfl | (simp only [ld]; rfl)) ?_
         with_reducible refine (ratio_Neg.calls kj29 a0_0 a0_1 t371 t372 _ A82.out).mono ?_
         rintro e w86 ⟨rfl, hb⟩
         refine ⟨_, rfl, ?_⟩
         replace BK343 := kb BK343 hb
         replace BK344 := kb BK344 hb
         replace HB := hs' HB (by repeat first | (with_reducible exact HB.out) | refine bl1 ?_ | (with_reducible refine bset ?_ ‹_›) | exact HB.out) hb
         (try clear hb); (try clear hb2); (try clear hk); (try clear hi)
         refine hK.out _ _ ⟨(blk_cell BK343.out 0).trans rfl, (blk_cell BK343.out 1).trans rfl⟩ (fun hHeld => ?_)
         clear hK K
         refine norm_ (a' := ?_) ?_ ?_
         rotate_left
         ·
          show Act.put _ (some 70) _ = _
          simp only [ap]; rfl
         refine one_ (i := 3) (N := some 72) (bA 33 15) rfl rfl (one_of HT_.out (by kernel_rfl)) (by decide) (fun K hK => ?_)
         refine goes_ Try.func44 (by kernel_rfl) rfl #[.agg #[.int .i64 a0_0, .int .i64 a0_1]] (by rfl) rfl rfl (by (try simp only [mp]); first | done | rfl | (simp only [ld]; rfl)) ?_
         with_reducible refine (serinetteref01_Neg.calls kj29 a0_0 a0_1 t373 t374 _ A83.out).mono ?_
         rintro e w87 ⟨rfl, hb⟩
         refine ⟨_, rfl, ?_⟩
         replace BK343 := kb BK343 hb
         replace BK344 := kb BK344 hb
         replace HB := hs' HB (by repeat first | (with_reducible exact HB.out) | refine bl1 ?_ | (with_reducible refine bset ?_ ‹_›) | exact HB.out) hb
         (try clear hb); (try clear hb2); (try clear hk); (try clear hi)
         refine hK.out _ _ ⟨(blk_cell BK343.out 0).trans rfl, (blk_cell BK343.out 1).trans rfl⟩ (fun hHeld => ?_)
         clear hK K
         refine norm_ (a' := ?_) ?_ ?_
         rotate_left
         ·
          show Act.put _ (some 72) _ = _
          simp only [ap]; rfl
         refine pure_ (i := 4) (N := some 73) (v := ?_) (a' := ?_) (bA 33 31) rfl rfl (any_of HT_.out (by kernel_rfl)) (fun _ _ _ h => h) (Or.inl ⟨by rfl, ?_⟩) ?_ ?_
         rotate_left
         ·
          intro w'
          go_simp; with_reducible rfl
         rotate_left
         ·
          simp only [ap]
          rfl
         refine pure_ (i := 5) (N := some 74) (v := ?_) (a' := ?_) (bA 33 63) rfl rfl (any_of HT_.out (by kernel_rfl)) (fun _ _ _ h => h) (Or.inl ⟨by rfl, ?_⟩) ?_ ?_
         rotate_left
         ·
          intro w'
          go_simp; with_reducible rfl
         rotate_left
         ·
          simp only [ap]
          rfl
         refine pure_ (i := 6) (N := some 75) (v := undef) (a' := ?_) (bA 33 127) rfl rfl (any_of HT_.out (by kernel_rfl)) (fun _ _ _ h => h) (Or.inr ⟨by rfl, rfl⟩) ?_ ?_
         rotate_left
         ·
          simp only [ap]
          rfl
         refine pure_ (i := 7) (N := some 76) (v := undef) (a' := ?_) (bA 33 255) rfl rfl (any_of HT_.out (by kernel_rfl)) (fun _ _ _ h => h) (Or.inr ⟨by rfl, rfl⟩) ?_ ?_
         rotate_left
         ·
          simp only [ap]
          rfl
         refine pure_ (i := 8) (N := some 77) (v := undef) (a' := ?_) (bA 33 511) rfl rfl (any_of HT_.out (by kernel_rfl)) (fun _ _ _ h => h) (Or.inr ⟨by rfl, rfl⟩) ?_ ?_
         rotate_left
         ·
          simp only [ap]
          rfl
         refine pure_ (i := 9) (N := some 78) (v := undef) (a' := ?_) (bA 33 1023) rfl rfl (any_of HT_.out (by kernel_rfl)) (fun _ _ _ h => h) (Or.inr ⟨by rfl, rfl⟩) ?_ ?_
         rotate_left
         ·
          simp only [ap]
          rfl
         refine pure_ (i := 10) (N := some 79) (v := undef) (a' := ?_) (bA 33 2047) rfl rfl (any_of HT_.out (by kernel_rfl)) (fun _ _ _ h => h) (Or.inr ⟨by rfl, rfl⟩) ?_ ?_
         rotate_left
         ·
          simp only [ap]
          rfl
         refine pure_ (i := 11) (N := some 80) (v := ?_) (a' := ?_) (bA 33 4095) rfl rfl (any_of HT_.out (by kernel_rfl)) (fun _ _ _ h => h) (Or.inl ⟨by rfl, ?_⟩) ?_ ?_
         rotate_left
         ·
          intro w'
          go_simp; with_reducible rfl
         rotate_left
         ·
          simp only [ap]
          rfl
         refine pure_ (i := 12) (N := some 81) (v := ?_) (a' := ?_) (bA 33 8191) rfl rfl (any_of HT_.out (by kernel_rfl)) (fun _ _ _ h => h) (Or.inl ⟨by rfl, ?_⟩) ?_ ?_
         rotate_left
         ·
          intro w'
          go_simp; with_reducible rfl
         rotate_left
         ·
          simp only [ap]
          rfl
         refine pure_ (i := 13) (N := some 82) (v := undef) (a' := ?_) (bA 33 16383) rfl rfl (any_of HT_.out (by kernel_rfl)) (fun _ _ _ h => h) (Or.inr ⟨by rfl, rfl⟩) ?_ ?_
         rotate_left
         ·
          simp only [ap]
          rfl
         refine pure_ (i := 14) (N := some 83) (v := undef) (a' := ?_) (bA 33 32767) rfl rfl (any_of HT_.out (by kernel_rfl)) (fun _ _ _ h => h) (Or.inr ⟨by rfl, rfl⟩) ?_ ?_
         rotate_left
         ·
          simp only [ap]
          rfl
         refine pure_ (i := 15) (N := some 84) (v := undef) (a' := ?_) (bA 33 65535) rfl rfl (any_of HT_.out (by kernel_rfl)) (fun _ _ _ h => h) (Or.inr ⟨by rfl, rfl⟩) ?_ ?_
         rotate_left
         ·
          simp only [ap]
          rfl
         refine pure_ (i := 16) (N := some 85) (v := undef) (a' := ?_) (bA 33 131071) rfl rfl (any_of HT_.out (by kernel_rfl)) (fun _ _ _ h => h) (Or.inr ⟨by rfl, rfl⟩) ?_ ?_
         rotate_left
         ·
          simp only [ap]
          rfl
         refine pure_ (i := 17) (N := some 86) (v := undef) (a' := ?_) (bA 33 262143) rfl rfl (any_of HT_.out (by kernel_rfl)) (fun _ _ _ h => h) (Or.inr ⟨by rfl, rfl⟩) ?_ ?_
         rotate_left
         ·
          simp only [ap]
          rfl
         refine pure_ (i := 18) (N := some 87) (v := ?_) (a' := ?_) (bA 33 524287) rfl rfl (any_of HT_.out (by kernel_rfl)) (fun _ _ _ h => h) (Or.inl ⟨by rfl, ?_⟩) ?_ ?_
         rotate_left
         ·
          intro w'
          go_simp; with_reducible rfl
         rotate_left
         ·
          simp only [ap]
          rfl
         refine pure_ (i := 19) (N := some 88) (v := ?_) (a' := ?_) (bA 33 1048575) rfl rfl (any_of HT_.out (by kernel_rfl)) (fun _ _ _ h => h) (Or.inl ⟨by rfl, ?_⟩) ?_ ?_
         rotate_left
         ·
          intro w'
          go_simp; with_reducible rfl
         rotate_left
         ·
          simp only [ap]
          rfl
         refine pure_ (i := 20) (N := some 89) (v := undef) (a' := ?_) (bA 33 2097151) rfl rfl (any_of HT_.out (by kernel_rfl)) (fun _ _ _ h => h) (Or.inr ⟨by rfl, rfl⟩) ?_ ?_
         rotate_left
         ·
          simp only [ap]
          rfl
         refine pure_ (i := 21) (N := some 90) (v := undef) (a' := ?_) (bA 33 4194303) rfl rfl (any_of HT_.out (by kernel_rfl)) (fun _ _ _ h => h) (Or.inr ⟨by rfl, rfl⟩) ?_ ?_
         rotate_left
         ·
          simp only [ap]
          rfl
         refine pure_ (i := 22) (N := some 91) (v := undef) (a' := ?_) (bA 33 8388607) rfl rfl (any_of HT_.out (by kernel_rfl)) (fun _ _ _ h => h) (Or.inr ⟨by rfl, rfl⟩) ?_ ?_
         rotate_left
         ·
          simp only [ap]
          rfl
         refine pure_ (i := 23) (N := some 92) (v := undef) (a' := ?_) (bA 33 16777215) rfl rfl (any_of HT_.out (by kernel_rfl)) (fun _ _ _ h => h) (Or.inr ⟨by rfl, rfl⟩) ?_ ?_
         rotate_left
         ·
          simp only [ap]
          rfl
         refine pure_ (i := 24) (N := some 93) (v := undef) (a' := ?_) (bA 33 33554431) rfl rfl (any_of HT_.out (by kernel_rfl)) (fun _ _ _ h => h) (Or.inr ⟨by rfl, rfl⟩) ?_ ?_
         rotate_left
         ·
          simp only [ap]
          rfl
         refine pure_ (i := 25) (N := some 94) (v := ?_) (a' := ?_) (bA 33 67108863) rfl rfl (any_of HT_.out (by kernel_rfl)) (fun _ _ _ h => h) (Or.inl ⟨by rfl, ?_⟩) ?_ ?_
         rotate_left
         ·
          intro w'
          go_simp; with_reducible rfl
         rotate_left
         ·
          simp only [ap]
          rfl
         refine pure_ (i := 26) (N := some 95) (v := ?_) (a' := ?_) (bA 33 134217727) rfl rfl (any_of HT_.out (by kernel_rfl)) (fun _ _ _ h => h) (Or.inl ⟨by rfl, ?_⟩) ?_ ?_
         rotate_left
         ·
          intro w'
          go_simp; with_reducible rfl
         rotate_left
         ·
          simp only [ap]
          rfl
         refine pure_ (i := 27) (N := some 96) (v := undef) (a' := ?_) (bA 33 268435455) rfl rfl (any_of HT_.out (by kernel_rfl)) (fun _ _ _ h => h) (Or.inr ⟨by rfl, rfl⟩) ?_ ?_
         rotate_left
         ·
          simp only [ap]
          rfl
         refine pure_ (i := 28) (N := some 97) (v := undef) (a' := ?_) (bA 33 536870911) rfl rfl (any_of HT_.out (by kernel_rfl)) (fun _ _ _ h => h) (Or.inr ⟨by rfl, rfl⟩) ?_ ?_
         rotate_left
         ·
          simp only [ap]
          rfl
         refine pure_ (i := 29) (N := some 98) (v := undef) (a' := ?_) (bA 33 1073741823) rfl rfl (any_of HT_.out (by kernel_rfl)) (fun _ _ _ h => h) (Or.inr ⟨by rfl, rfl⟩) ?_ ?_
         rotate_left
         ·
          simp only [ap]
          rfl
         refine pure_ (i := 30) (N := some 99) (v := undef) (a' := ?_) (bA 33 2147483647) rfl rfl (any_of HT_.out (by kernel_rfl)) (fun _ _ _ h => h) (Or.inr ⟨by rfl, rfl⟩) ?_ ?_
         rotate_left
         ·
          simp only [ap]
          rfl
         refine pure_ (i := 31) (N := some 100) (v := undef) (a' := ?_) (bA 33 4294967295) rfl rfl (any_of HT_.out (by kernel_rfl)) (fun _ _ _ h => h) (Or.inr ⟨by rfl, rfl⟩) ?_ ?_
         rotate_left
         ·
          simp only [ap]
          rfl
         refine pure_ (i := 32) (N := some 101) (v := ?_) (a' := ?_) (bA 33 8589934591) rfl rfl (any_of HT_.out (by kernel_rfl)) (fun _ _ _ h => h) (Or.inl ⟨by rfl, ?_⟩) ?_ ?_
         rotate_left
         ·
          intro w'
          go_simp; with_reducible rfl
         rotate_left
         ·
          simp only [ap]
          rfl
         refine done_ (done_of HT_.out (by kernel_rfl)) ?_
         try go_wp2
         go_meet
         case rel => exact ⟨_, (true), (by first | rfl | (simp; done) | (simp [*]; done)), H', ⟨by have := HJ2.out; have := HJ29.out; first | omega | exact Nat.le_refl _⟩, ⟨by refine bk ?_; exact BK343.out⟩, ⟨by refine bk ?_; exact BK344.out⟩, ⟨by repeat first | exact HB.out | refine bset ?_ ‹_› | apply below_alloc | apply pw_below_drewN | apply below_drew1⟩⟩
        ·
         rw [if_neg c84] at H
         have c84b0 : (!(t371 == t373) || (!(t372 == t374))) = false := by simpa using c84
         clear c84
         (first | rw [c84b0] | (simp only [i64_w, i32_w]; rw [c84b0]) | skip)
         replace H := Option.bind_eq_some_iff.mp H
         obtain ⟨⟨t375, t376⟩, A880, H⟩ := H
         (try dsimp only at H)
         have A88 := Aside0.mk A880
         clear A880
         replace H := Option.bind_eq_some_iff.mp H
         obtain ⟨⟨t377, t378⟩, A890, H⟩ := H
         (try dsimp only at H)
         have A89 := Aside0.mk A890
         clear A890
         by_cases c90 : (!(t375 == t377) || (!(t376 == t378))) = true
         ·
          rw [if_pos c90] at H
          have c90b0 : (!(t375 == t377) || (!(t376 == t378))) = true := c90
          clear c90
          have H' := Aside0.mk H
          clear H
          try go_wp2
          replace BK343 := kd BK343
          replace BK344 := kd BK344
          replace HB := Aside0.mk (below_drew1 HB.out)
          refine start_ (n := 33) (S := fun w' => w'.cell? ⟨gb343, 0, none⟩ = some (.int .i64 a0_0) ∧ w'.cell? ⟨gb343, 1, none⟩ = some (.int .i64 a0_1)) (ds := []) (bA 33 0) (by kernel_rfl) rfl rfl ⟨(blk_cell BK343.out 0).trans rfl, (blk_cell BK343.out 1).trans rfl⟩ (fun hHeld => ?_); refine with_tabW serinettelaw01_NumberSays.tab5 serinettelaw01_NumberSays.bits5 (fun HT_ HW_ => ?_)
          generalize wc.drew = w91 at BK343 BK344 HB hHeld ⊢
          refine take_ (i := 0) (N := some 69) (v := ?_) (a' := ?_) (bA 33 1) rfl rfl (take_ofW HT_.out HW_.out (by kernel_rfl)) (fun _ _ _ h => h) (Or.inl ⟨by rfl, ?_⟩) hHeld ?_ ?_
          rotate_left
          ·
           rintro w' ⟨s0, s1⟩
           go_simp; with_reducible rfl
          rotate_left
          ·
           simp only [ap]
           rfl
          refine take_ (i := 2) (N := some 71) (v := ?_) (a' := ?_) (bA 33 5) rfl rfl (take_ofW HT_.out HW_.out (by kernel_rfl)) (fun _ _ _ h => h) (Or.inl ⟨by rfl, ?_⟩) hHeld ?_ ?_
          rotate_left
          ·
           rintro w' ⟨s0, s1⟩
           go_simp; with_reducible rfl
          rotate_left
          ·
           simp only [ap]
           rfl
          refine one_ (i := 1) (N := some 70) (bA 33 7) rfl rfl (one_of HT_.out (by kernel_rfl)) (by decide) (fun K hK => ?_)
          refine goes_ Try.func43 (by kernel_rfl) rfl #[.agg #[.int .i64 a0_0, .int .i64 a0_1]] (by rfl) rfl rfl (by (try simp only [mp]); first | done | rfl | (simp only [ld]; rfl)) ?_
          with_reducible refine (ratio_Neg.calls kj29 a0_0 a0_1 t371 t372 _ A82.out).mono ?_
          rintro e w92 ⟨rfl, hb⟩
          refine ⟨_, rfl, ?_⟩
          replace BK343 := kb BK343 hb
          replace BK344 := kb BK344 hb
          replace HB := hs' HB (by repeat first | (with_reducible exact HB.out) | refine bl1 ?_ | (with_reducible refine bset ?_ ‹_›) | exact HB.out) hb
          (try clear hb); (try clear hb2); (try clear hk); (try clear hi)
          refine hK.out _ _ ⟨(blk_cell BK343.out 0).trans rfl, (blk_cell BK343.out 1).trans rfl⟩ (fun hHeld => ?_)
          clear hK K
          refine norm_ (a' := ?_) ?_ ?_
          rotate_left
          ·
           show Act.put _ (some 70) _ = _
           simp only [ap]; rfl
          refine one_ (i := 3) (N := some 72) (bA 33 15) rfl rfl (one_of HT_.out (by kernel_rfl)) (by decide) (fun K hK => ?_)
          refine goes_ Try.func44 (by kernel_rfl) rfl #[.agg #[.int .i64 a0_0, .int .i64 a0_1]] (by rfl) rfl rfl (by (try simp only [mp]); first | done | rfl | (simp only [ld]; rfl)) ?_
          with_reducible refine (serinetteref01_Neg.calls kj29 a0_0 a0_1 t373 t374 _ A83.out).mono ?_
          rintro e w93 ⟨rfl, hb⟩
          refine ⟨_, rfl, ?_⟩
          replace BK343 := kb BK343 hb
          replace BK344 := kb BK344 hb
          replace HB := hs' HB (by repeat first | (with_reducible exact HB.out) | refine bl1 ?_ | (with_reducible refine bset ?_ ‹_›) | exact HB.out) hb
          (try clear hb); (try clear hb2); (try clear hk); (try clear hi)
          refine hK.out _ _ ⟨(blk_cell BK343.out 0).trans rfl, (blk_cell BK343.out 1).trans rfl⟩ (fun hHeld => ?_)
          clear hK K
          refine norm_ (a' := ?_) ?_ ?_
          rotate_left
          ·
           show Act.put _ (some 72) _ = _
           simp only [ap]; rfl
          refine pure_ (i := 4) (N := some 73) (v := ?_) (a' := ?_) (bA 33 31) rfl rfl (any_of HT_.out (by kernel_rfl)) (fun _ _ _ h => h) (Or.inl ⟨by rfl, ?_⟩) ?_ ?_
          rotate_left
          ·
           intro w'
           go_simp; with_reducible rfl
          rotate_left
          ·
           simp only [ap]
           rfl
          refine pure_ (i := 5) (N := some 74) (v := ?_) (a' := ?_) (bA 33 63) rfl rfl (any_of HT_.out (by kernel_rfl)) (fun _ _ _ h => h) (Or.inl ⟨by rfl, ?_⟩) ?_ ?_
          rotate_left
          ·
           intro w'
           go_simp; with_reducible rfl
          rotate_left
          ·
           simp only [ap]
           rfl
          refine take_ (i := 6) (N := some 75) (v := ?_) (a' := ?_) (bA 33 127) rfl rfl (take_ofW HT_.out HW_.out (by kernel_rfl)) (fun _ _ _ h => h) (Or.inl ⟨by rfl, ?_⟩) hHeld ?_ ?_
          rotate_left
          ·
           rintro w' ⟨s0, s1⟩
           go_simp; with_reducible rfl
          rotate_left
          ·
           simp only [ap]
           rfl
          refine take_ (i := 8) (N := some 77) (v := ?_) (a' := ?_) (bA 33 383) rfl rfl (take_ofW HT_.out HW_.out (by kernel_rfl)) (fun _ _ _ h => h) (Or.inl ⟨by rfl, ?_⟩) hHeld ?_ ?_
          rotate_left
          ·
           rintro w' ⟨s0, s1⟩
           go_simp; with_reducible rfl
          rotate_left
          ·
           simp only [ap]
           rfl
          refine one_ (i := 7) (N := some 76) (bA 33 511) rfl rfl (one_of HT_.out (by kernel_rfl)) (by decide) (fun K hK => ?_)
          refine goes_ Try.func31 (by kernel_rfl) rfl #[.agg #[.int .i64 a0_0, .int .i64 a0_1]] (by rfl) rfl rfl (by (try simp only [mp]); first | done | rfl | (simp only [ld]; rfl)) ?_
          with_reducible refine (ratio_Abs.calls kj29 a0_0 a0_1 t375 t376 _ A88.out).mono ?_
          rintro e w94 ⟨rfl, hb⟩
          refine ⟨_, rfl, ?_⟩
          replace BK343 := kb BK343 hb
          replace BK344 := kb BK344 hb
          replace HB := hs' HB (by repeat first | (with_reducible exact HB.out) | refine bl1 ?_ | (with_reducible refine bset ?_ ‹_›) | exact HB.out) hb
          (try clear hb); (try clear hb2); (try clear hk); (try clear hi)
          refine hK.out _ _ ⟨(blk_cell BK343.out 0).trans rfl, (blk_cell BK343.out 1).trans rfl⟩ (fun hHeld => ?_)
          clear hK K
          refine norm_ (a' := ?_) ?_ ?_
          rotate_left
          ·
           show Act.put _ (some 76) _ = _
           simp only [ap]; rfl
          refine one_ (i := 9) (N := some 78) (bA 33 1023) rfl rfl (one_of HT_.out (by kernel_rfl)) (by decide) (fun K hK => ?_)
          refine goes_ Try.func45 (by kernel_rfl) rfl #[.agg #[.int .i64 a0_0, .int .i64 a0_1]] (by rfl) rfl rfl (by (try simp only [mp]); first | done | rfl | (simp only [ld]; rfl)) ?_
          with_reducible refine (serinetteref01_Abs.calls kj29 a0_0 a0_1 t377 t378 _ A89.out).mono ?_
          rintro e w95 ⟨rfl, hb⟩
          refine ⟨_, rfl, ?_⟩
          replace BK343 := kb BK343 hb
          replace BK344 := kb BK344 hb
          replace HB := hs' HB (by repeat first | (with_reducible exact HB.out) | refine bl1 ?_ | (with_reducible refine bset ?_ ‹_›) | exact HB.out) hb
          (try clear hb); (try clear hb2); (try clear hk); (try clear hi)
          refine hK.out _ _ ⟨(blk_cell BK343.out 0).trans rfl, (blk_cell BK343.out 1).trans rfl⟩ (fun hHeld => ?_)
          clear hK K
          refine norm_ (a' := ?_) ?_ ?_
          rotate_left
          ·
           show Act.put _ (some 78) _ = _
           simp only [ap]; rfl
          refine pure_ (i := 10) (N := some 79) (v := ?_) (a' := ?_) (bA 33 2047) rfl rfl (any_of HT_.out (by kernel_rfl)) (fun _ _ _ h => h) (Or.inl ⟨by rfl, ?_⟩) ?_ ?_
          rotate_left
          ·
           intro w'
           go_simp; with_reducible rfl
          rotate_left
          ·
           simp only [ap]
           rfl
          refine pure_ (i := 11) (N := some 80) (v := ?_) (a' := ?_) (bA 33 4095) rfl rfl (any_of HT_.out (by kernel_rfl)) (fun _ _ _ h => h) (Or.inl ⟨by rfl, ?_⟩) ?_ ?_
          rotate_left
          ·
           intro w'
           go_simp; with_reducible rfl
          rotate_left
          ·
           simp only [ap]
           rfl
          refine pure_ (i := 12) (N := some 81) (v := ?_) (a' := ?_) (bA 33 8191) rfl rfl (any_of HT_.out (by kernel_rfl)) (fun _ _ _ h => h) (Or.inl ⟨by rfl, ?_⟩) ?_ ?_
          rotate_left
          ·
           intro w'
           go_simp; with_reducible rfl
          rotate_left
          ·
           simp only [ap]
           rfl
          refine pure_ (i := 13) (N := some 82) (v := undef) (a' := ?_) (bA 33 16383) rfl rfl (any_of HT_.out (by kernel_rfl)) (fun _ _ _ h => h) (Or.inr ⟨by rfl, rfl⟩) ?_ ?_
          rotate_left
          ·
           simp only [ap]
           rfl
          refine pure_ (i := 14) (N := some 83) (v := undef) (a' := ?_) (bA 33 32767) rfl rfl (any_of HT_.out (by kernel_rfl)) (fun _ _ _ h => h) (Or.inr ⟨by rfl, rfl⟩) ?_ ?_
          rotate_left
          ·
           simp only [ap]
           rfl
          refine pure_ (i := 15) (N := some 84) (v := undef) (a' := ?_) (bA 33 65535) rfl rfl (any_of HT_.out (by kernel_rfl)) (fun _ _ _ h => h) (Or.inr ⟨by rfl, rfl⟩) ?_ ?_
          rotate_left
          ·
           simp only [ap]
           rfl
          refine pure_ (i := 16) (N := some 85) (v := undef) (a' := ?_) (bA 33 131071) rfl rfl (any_of HT_.out (by kernel_rfl)) (fun _ _ _ h => h) (Or.inr ⟨by rfl, rfl⟩) ?_ ?_
          rotate_left
          ·
           simp only [ap]
           rfl
          refine pure_ (i := 17) (N := some 86) (v := undef) (a' := ?_) (bA 33 262143) rfl rfl (any_of HT_.out (by kernel_rfl)) (fun _ _ _ h => h) (Or.inr ⟨by rfl, rfl⟩) ?_ ?_
          rotate_left
          ·
           simp only [ap]
           rfl
          refine pure_ (i := 18) (N := some 87) (v := ?_) (a' := ?_) (bA 33 524287) rfl rfl (any_of HT_.out (by kernel_rfl)) (fun _ _ _ h => h) (Or.inl ⟨by rfl, ?_⟩) ?_ ?_
          rotate_left
          ·
           intro w'
           go_simp; with_reducible rfl
          rotate_left
          ·
           simp only [ap]
           rfl
          refine pure_ (i := 19) (N := some 88) (v := ?_) (a' := ?_) (bA 33 1048575) rfl rfl (any_of HT_.out (by kernel_rfl)) (fun _ _ _ h => h) (Or.inl ⟨by rfl, ?_⟩) ?_ ?_
          rotate_left
          ·
           intro w'
           go_simp; with_reducible rfl
          rotate_left
          ·
           simp only [ap]
           rfl
          refine pure_ (i := 20) (N := some 89) (v := undef) (a' := ?_) (bA 33 2097151) rfl rfl (any_of HT_.out (by kernel_rfl)) (fun _ _ _ h => h) (Or.inr ⟨by rfl, rfl⟩) ?_ ?_
          rotate_left
          ·
           simp only [ap]
           rfl
          refine pure_ (i := 21) (N := some 90) (v := undef) (a' := ?_) (bA 33 4194303) rfl rfl (any_of HT_.out (by kernel_rfl)) (fun _ _ _ h => h) (Or.inr ⟨by rfl, rfl⟩) ?_ ?_
          rotate_left
          ·
           simp only [ap]
           rfl
          refine pure_ (i := 22) (N := some 91) (v := undef) (a' := ?_) (bA 33 8388607) rfl rfl (any_of HT_.out (by kernel_rfl)) (fun _ _ _ h => h) (Or.inr ⟨by rfl, rfl⟩) ?_ ?_
          rotate_left
          ·
           simp only [ap]
           rfl
          refine pure_ (i := 23) (N := some 92) (v := undef) (a' := ?_) (bA 33 16777215) rfl rfl (any_of HT_.out (by kernel_rfl)) (fun _ _ _ h => h) (Or.inr ⟨by rfl, rfl⟩) ?_ ?_
          rotate_left
          ·
           simp only [ap]
           rfl
          refine pure_ (i := 24) (N := some 93) (v := undef) (a' := ?_) (bA 33 33554431) rfl rfl (any_of HT_.out (by kernel_rfl)) (fun _ _ _ h => h) (Or.inr ⟨by rfl, rfl⟩) ?_ ?_
          rotate_left
          ·
           simp only [ap]
           rfl
          refine pure_ (i := 25) (N := some 94) (v := ?_) (a' := ?_) (bA 33 67108863) rfl rfl (any_of HT_.out (by kernel_rfl)) (fun _ _ _ h => h) (Or.inl ⟨by rfl, ?_⟩) ?_ ?_
          rotate_left
          ·
           intro w'
           go_simp; with_reducible rfl
          rotate_left
          ·
           simp only [ap]
           rfl
          refine pure_ (i := 26) (N := some 95) (v := ?_) (a' := ?_) (bA 33 134217727) rfl rfl (any_of HT_.out (by kernel_rfl)) (fun _ _ _ h => h) (Or.inl ⟨by rfl, ?_⟩) ?_ ?_
          rotate_left
          ·
           intro w'
           go_simp; with_reducible rfl
          rotate_left
          ·
           simp only [ap]
           rfl
          refine pure_ (i := 27) (N := some 96) (v := undef) (a' := ?_) (bA 33 268435455) rfl rfl (any_of HT_.out (by kernel_rfl)) (fun _ _ _ h => h) (Or.inr ⟨by rfl, rfl⟩) ?_ ?_
          rotate_left
          ·
           simp only [ap]
           rfl
          refine pure_ (i := 28) (N := some 97) (v := undef) (a' := ?_) (bA 33 536870911) rfl rfl (any_of HT_.out (by kernel_rfl)) (fun _ _ _ h => h) (Or.inr ⟨by rfl, rfl⟩) ?_ ?_
          rotate_left
          ·
           simp only [ap]
           rfl
          refine pure_ (i := 29) (N := some 98) (v := undef) (a' := ?_) (bA 33 1073741823) rfl rfl (any_of HT_.out (by kernel_rfl)) (fun _ _ _ h => h) (Or.inr ⟨by rfl, rfl⟩) ?_ ?_
          rotate_left
          ·
           simp only [ap]
           rfl
          refine pure_ (i := 30) (N := some 99) (v := undef) (a' := ?_) (bA 33 2147483647) rfl rfl (any_of HT_.out (by kernel_rfl)) (fun _ _ _ h => h) (Or.inr ⟨by rfl, rfl⟩) ?_ ?_
          rotate_left
          ·
           simp only [ap]
           rfl
          refine pure_ (i := 31) (N := some 100) (v := undef) (a' := ?_) (bA 33 4294967295) rfl rfl (any_of HT_.out (by kernel_rfl)) (fun _ _ _ h => h) (Or.inr ⟨by rfl, rfl⟩) ?_ ?_
          rotate_left
          ·
           simp only [ap]
           rfl
          refine pure_ (i := 32) (N := some 101) (v := ?_) (a' := ?_) (bA 33 8589934591) rfl rfl (any_of HT_.out (by kernel_rfl)) (fun _ _ _ h => h) (Or.inl ⟨by rfl, ?_⟩) ?_ ?_
          rotate_left
          ·
           intro w'
           go_simp; with_reducible rfl
          rotate_left
          ·
           simp only [ap]
           rfl
          refine done_ (done_of HT_.out (by kernel_rfl)) ?_
          try go_wp2
          go_meet
          case rel => exact ⟨_, (true), (by first | rfl | (simp; done) | (simp [*]; done)), H', ⟨by have := HJ2.out; have := HJ29.out; first | omega | exact Nat.le_refl _⟩, ⟨by refine bk ?_; exact BK343.out⟩, ⟨by refine bk ?_; exact BK344.out⟩, ⟨by repeat first | exact HB.out | refine bset ?_ ‹_› | apply below_alloc | apply pw_below_drewN | apply below_drew1⟩⟩
         ·
          rw [if_neg c90] at H
          have c90b0 : (!(t375 == t377) || (!(t376 == t378))) = false := by simpa using c90
          clear c90
          replace H := Option.bind_eq_some_iff.mp H
          obtain ⟨⟨t379, t380⟩, A960, H⟩ := H
          (try dsimp only at H)
          have A96 := Aside0.mk A960
          clear A960
          replace H := Option.bind_eq_some_iff.mp H
          obtain ⟨⟨t381, t382⟩, A970, H⟩ := H
          (try dsimp only at H)
          have A97 := Aside0.mk A970
          clear A970
          by_cases c98 : (!(t379 == t381) || (!(t380 == t382))) = true
          ·
           rw [if_pos c98] at H
           have c98b0 : (!(t379 == t381) || (!(t380 == t382))) = true := c98
           clear c98
           have H' := Aside0.mk H
           clear H
           try go_wp2
           replace BK343 := kd BK343
           replace BK344 := kd BK344
           replace HB := Aside0.mk (below_drew1 HB.out)
           refine start_ (n := 33) (S := fun w' => w'.cell? ⟨gb343, 0, none⟩ = some (.int .i64 a0_0) ∧ w'.cell? ⟨gb343, 1, none⟩ = some (.int .i64 a0_1)) (ds := []) (bA 33 0) (by kernel_rfl) rfl rfl ⟨(blk_cell BK343.out 0).trans rfl, (blk_cell BK343.out 1).trans rfl⟩ (fun hHeld => ?_); refine with_tabW serinettelaw01_NumberSays.tab5 serinettelaw01_NumberSays.bits5 (fun HT_ HW_ => ?_)
           generalize wc.drew = w99 at BK343 BK344 HB hHeld ⊢
           refine take_ (i := 0) (N := some 69) (v := ?_) (a' := ?_) (bA 33 1) rfl rfl (take_ofW HT_.out HW_.out (by kernel_rfl)) (fun _ _ _ h => h) (Or.inl ⟨by rfl, ?_⟩) hHeld ?_ ?_
           rotate_left
           ·
            rintro w' ⟨s0, s1⟩
            go_simp; with_reducible rfl
           rotate_left
           ·
            simp only [ap]
            rfl
           refine take_ (i := 2) (N := some 71) (v := ?_) (a' := ?_) (bA 33 5) rfl rfl (take_ofW HT_.out HW_.out (by kernel_rfl)) (fun _ _ _ h => h) (Or.inl ⟨by rfl, ?_⟩) hHeld ?_ ?_
           rotate_left
           ·
            rintro w' ⟨s0, s1⟩
            go_simp; with_reducible rfl
           rotate_left
           ·
            simp only [ap]
            rfl
           refine one_ (i := 1) (N := some 70) (bA 33 7) rfl rfl (one_of HT_.out (by kernel_rfl)) (by decide) (fun K hK => ?_)
           refine goes_ Try.func43 (by kernel_rfl) rfl #[.agg #[.int .i64 a0_0, .int .i64 a0_1]] (by rfl) rfl rfl (by (try simp only [mp]); first | done | rfl | (simp only [ld]; rfl)) ?_
           with_reducible refine (ratio_Neg.calls kj29 a0_0 a0_1 t371 t372 _ A82.out).mono ?_
           rintro e w100 ⟨rfl, hb⟩
           refine ⟨_, rfl, ?_⟩
           replace BK343 := kb BK343 hb
           replace BK344 := kb BK344 hb
           replace HB := hs' HB (by repeat first | (with_reducible exact HB.out) | refine bl1 ?_ | (with_reducible refine bset ?_ ‹_›) | exact HB.out) hb
           (try clear hb); (try clear hb2); (try clear hk); (try clear hi)
           refine hK.out _ _ ⟨(blk_cell BK343.out 0).trans rfl, (blk_cell BK343.out 1).trans rfl⟩ (fun hHeld => ?_)
           clear hK K
           refine norm_ (a' := ?_) ?_ ?_
           rotate_left
           ·
            show Act.put _ (some 70) _ = _
            simp only [ap]; rfl
           refine one_ (i := 3) (N := some 72) (bA 33 15) rfl rfl (one_of HT_.out (by kernel_rfl)) (by decide) (fun K hK => ?_)
           refine goes_ Try.func44 (by kernel_rfl) rfl #[.agg #[.int .i64 a0_0, .int .i64 a0_1]] (by rfl) rfl rfl (by (try simp only [mp]); first | done | rfl | (simp only [ld]; rfl)) ?_
           with_reducible refine (serinetteref01_Neg.calls kj29 a0_0 a0_1 t373 t374 _ A83.out).mono ?_
           rintro e w101 ⟨rfl, hb⟩
           refine ⟨_, rfl, ?_⟩
           replace BK343 := kb BK343 hb
           replace BK344 := kb BK344 hb
           replace HB := hs' HB (by repeat first | (with_reducible exact HB.out) | refine bl1 ?_ | (with_reducible refine bset ?_ ‹_›) | exact HB.out) hb
           (try clear hb); (try clear hb2); (try clear hk); (try clear hi)
           refine hK.out _ _ ⟨(blk_cell BK343.out 0).trans rfl, (blk_cell BK343.out 1).trans rfl⟩ (fun hHeld => ?_)
           clear hK K
           refine norm_ (a' := ?_) ?_ ?_
           rotate_left
           ·
            show Act.put _ (some 72) _ = _
            simp only [ap]; rfl
           refine pure_ (i := 4) (N := some 73) (v := ?_) (a' := ?_) (bA 33 31) rfl rfl (any_of HT_.out (by kernel_rfl)) (fun _ _ _ h => h) (Or.inl ⟨by rfl, ?_⟩) ?_ ?_
           rotate_left
           ·
            intro w'
            go_simp; with_reducible rfl
           rotate_left
           ·
            simp only [ap]
            rfl
           refine pure_ (i := 5) (N := some 74) (v := ?_) (a' := ?_) (bA 33 63) rfl rfl (any_of HT_.out (by kernel_rfl)) (fun _ _ _ h => h) (Or.inl ⟨by rfl, ?_⟩) ?_ ?_
           rotate_left
           ·
            intro w'
            go_simp; with_reducible rfl
           rotate_left
           ·
            simp only [ap]
            rfl
           refine take_ (i := 6) (N := some 75) (v := ?_) (a' := ?_) (bA 33 127) rfl rfl (take_ofW HT_.out HW_.out (by kernel_rfl)) (fun _ _ _ h => h) (Or.inl ⟨by rfl, ?_⟩) hHeld ?_ ?_
           rotate_left
           ·
            rintro w' ⟨s0, s1⟩
            go_simp; with_reducible rfl
           rotate_left
           ·
            simp only [ap]
            rfl
           refine take_ (i := 8) (N := some 77) (v := ?_) (a' := ?_) (bA 33 383) rfl rfl (take_ofW HT_.out HW_.out (by kernel_rfl)) (fun _ _ _ h => h) (Or.inl ⟨by rfl, ?_⟩) hHeld ?_ ?_
           rotate_left
           ·
            rintro w' ⟨s0, s1⟩
            go_simp; with_reducible rfl
           rotate_left
           ·
            simp only [ap]
            rfl
           refine one_ (i := 7) (N := some 76) (bA 33 511) rfl rfl (one_of HT_.out (by kernel_rfl)) (by decide) (fun K hK => ?_)
           refine goes_ Try.func31 (by kernel_rfl) rfl #[.agg #[.int .i64 a0_0, .int .i64 a0_1]] (by rfl) rfl rfl (by (try simp only [mp]); first | done | rfl | (simp only [ld]; rfl)) ?_
           with_reducible refine (ratio_Abs.calls kj29 a0_0 a0_1 t375 t376 _ A88.out).mono ?_
           rintro e w102 ⟨rfl, hb⟩
           refine ⟨_, rfl, ?_⟩
           replace BK343 := kb BK343 hb
           replace BK344 := kb BK344 hb
           replace HB := hs' HB (by repeat first | (with_reducible exact HB.out) | refine bl1 ?_ | (with_reducible refine bset ?_ ‹_›) | exact HB.out) hb
           (try clear hb); (try clear hb2); (try clear hk); (try clear hi)
           refine hK.out _ _ ⟨(blk_cell BK343.out 0).trans rfl, (blk_cell BK343.out 1).trans rfl⟩ (fun hHeld => ?_)
           clear hK K
           refine norm_ (a' := ?_) ?_ ?_
           rotate_left
           ·
            show Act.put _ (some 76) _ = _
            simp only [ap]; rfl
           refine one_ (i := 9) (N := some 78) (bA 33 1023) rfl rfl (one_of HT_.out (by kernel_rfl)) (by decide) (fun K hK => ?_)
           refine goes_ Try.func45 (by kernel_rfl) rfl #[.agg #[.int .i64 a0_0, .int .i64 a0_1]] (by rfl) rfl rfl (by (try simp only [mp]); first | done | rfl | (simp only [ld]; rfl)) ?_
           with_reducible refine (serinetteref01_Abs.calls kj29 a0_0 a0_1 t377 t378 _ A89.out).mono ?_
           rintro e w103 ⟨rfl, hb⟩
           refine ⟨_, rfl, ?_⟩
           replace BK343 := kb BK343 hb
           replace BK344 := kb BK344 hb
           replace HB := hs' HB (by repeat first | (with_reducible exact HB.out) | refine bl1 ?_ | (with_reducible refine bset ?_ ‹_›) | exact HB.out) hb
           (try clear hb); (try clear hb2); (try clear hk); (try clear hi)
           refine hK.out _ _ ⟨(blk_cell BK343.out 0).trans rfl, (blk_cell BK343.out 1).trans rfl⟩ (fun hHeld => ?_)
           clear hK K
           refine norm_ (a' := ?_) ?_ ?_
           rotate_left
           ·
            show Act.put _ (some 78) _ = _
            simp only [ap]; rfl
           refine pure_ (i := 10) (N := some 79) (v := ?_) (a' := ?_) (bA 33 2047) rfl rfl (any_of HT_.out (by kernel_rfl)) (fun _ _ _ h => h) (Or.inl ⟨by rfl, ?_⟩) ?_ ?_
           rotate_left
           ·
            intro w'
            go_simp; with_reducible rfl
           rotate_left
           ·
            simp only [ap]
            rfl
           refine pure_ (i := 11) (N := some 80) (v := ?_) (a' := ?_) (bA 33 4095) rfl rfl (any_of HT_.out (by kernel_rfl)) (fun _ _ _ h => h) (Or.inl ⟨by rfl, ?_⟩) ?_ ?_
           rotate_left
           ·
            intro w'
            go_simp; with_reducible rfl
           rotate_left
           ·
            simp only [ap]
            rfl
           refine pure_ (i := 12) (N := some 81) (v := ?_) (a' := ?_) (bA 33 8191) rfl rfl (any_of HT_.out (by kernel_rfl)) (fun _ _ _ h => h) (Or.inl ⟨by rfl, ?_⟩) ?_ ?_
           rotate_left
           ·
            intro w'
            go_simp; with_reducible rfl
           rotate_left
           ·
            simp only [ap]
            rfl
           refine take_ (i := 13) (N := some 82) (v := ?_) (a' := ?_) (bA 33 16383) rfl rfl (take_ofW HT_.out HW_.out (by kernel_rfl)) (fun _ _ _ h => h) (Or.inl ⟨by rfl, ?_⟩) hHeld ?_ ?_
           rotate_left
           ·
            rintro w' ⟨s0, s1⟩
            go_simp; with_reducible rfl
           rotate_left
           ·
            simp only [ap]
            rfl
           refine take_ (i := 15) (N := some 84) (v := ?_) (a' := ?_) (bA 33 49151) rfl rfl (take_ofW HT_.out HW_.out (by kernel_rfl)) (fun _ _ _ h => h) (Or.inl ⟨by rfl, ?_⟩) hHeld ?_ ?_
           rotate_left
           ·
            rintro w' ⟨s0, s1⟩
            go_simp; with_reducible rfl
           rotate_left
           ·
            simp only [ap]
            rfl
           refine one_ (i := 14) (N := some 83) (bA 33 65535) rfl rfl (one_of HT_.out (by kernel_rfl)) (by decide) (fun K hK => ?_)
           refine goes_ Try.func28 (by kernel_rfl) rfl #[.agg #[.int .i64 a0_0, .int .i64 a0_1]] (by rfl) rfl rfl (by (try simp only [mp]); first | done | rfl | (simp only [ld]; rfl)) ?_
           with_reducible refine (ratio_Floor.calls kj29 a0_0 a0_1 t379 t380 _ A96.out).mono ?_
           rintro e w104 ⟨rfl, hb⟩
           refine ⟨_, rfl, ?_⟩
           replace BK343 := kb BK343 hb
           replace BK344 := kb BK344 hb
           replace HB := hs' HB (by repeat first | (with_reducible exact HB.out) | refine bl1 ?_ | (with_reducible refine bset ?_ ‹_›) | exact HB.out) hb
           (try clear hb); (try clear hb2); (try clear hk); (try clear hi)
           refine hK.out _ _ ⟨(blk_cell BK343.out 0).trans rfl, (blk_cell BK343.out 1).trans rfl⟩ (fun hHeld => ?_)
           clear hK K
           refine norm_ (a' := ?_) ?_ ?_
           rotate_left
           ·
            show Act.put _ (some 83) _ = _
            simp only [ap]; rfl
           refine one_ (i := 16) (N := some 85) (bA 33 131071) rfl rfl (one_of HT_.out (by kernel_rfl)) (by decide) (fun K hK => ?_)
           refine goes_ Try.func46 (by kernel_rfl) rfl #[.agg #[.int .i64 a0_0, .int .i64 a0_1]] (by rfl) rfl rfl (by (try simp only [mp]); first | done | rfl | (simp only [ld]; rfl)) ?_
           with_reducible refine (serinetteref01_Floor.calls kj29 a0_0 a0_1 t381 t382 _ A97.out).mono ?_
           rintro e w105 ⟨rfl, hb⟩
           refine ⟨_, rfl, ?_⟩
           replace BK343 := kb BK343 hb
           replace BK344 := kb BK344 hb
           replace HB := hs' HB (by repeat first | (with_reducible exact HB.out) | refine bl1 ?_ | (with_reducible refine bset ?_ ‹_›) | exact HB.out) hb
           (try clear hb); (try clear hb2); (try clear hk); (try clear hi)
           refine hK.out _ _ ⟨(blk_cell BK343.out 0).trans rfl, (blk_cell BK343.out 1).trans rfl⟩ (fun hHeld => ?_)
           clear hK K
           refine norm_ (a' := ?_) ?_ ?_
           rotate_left
           ·
            show Act.put _ (some 85) _ = _
            simp only [ap]; rfl
           refine pure_ (i := 17) (N := some 86) (v := ?_) (a' := ?_) (bA 33 262143) rfl rfl (any_of HT_.out (by kernel_rfl)) (fun _ _ _ h => h) (Or.inl ⟨by rfl, ?_⟩) ?_ ?_
           rotate_left
           ·
            intro w'
            go_simp; with_reducible rfl
           rotate_left
           ·
            simp only [ap]
            rfl
           refine pure_ (i := 18) (N := some 87) (v := ?_) (a' := ?_) (bA 33 524287) rfl rfl (any_of HT_.out (by kernel_rfl)) (fun _ _ _ h => h) (Or.inl ⟨by rfl, ?_⟩) ?_ ?_
           rotate_left
           ·
            intro w'
            go_simp; with_reducible rfl
           rotate_left
           ·
            simp only [ap]
            rfl
           refine pure_ (i := 19) (N := some 88) (v := ?_) (a' := ?_) (bA 33 1048575) rfl rfl (any_of HT_.out (by kernel_rfl)) (fun _ _ _ h => h) (Or.inl ⟨by rfl, ?_⟩) ?_ ?_
           rotate_left
           ·
            intro w'
            go_simp; with_reducible rfl
           rotate_left
           ·
            simp only [ap]
            rfl
           refine pure_ (i := 20) (N := some 89) (v := undef) (a' := ?_) (bA 33 2097151) rfl rfl (any_of HT_.out (by kernel_rfl)) (fun _ _ _ h => h) (Or.inr ⟨by rfl, rfl⟩) ?_ ?_
           rotate_left
           ·
            simp only [ap]
            rfl
           refine pure_ (i := 21) (N := some 90) (v := undef) (a' := ?_) (bA 33 4194303) rfl rfl (any_of HT_.out (by kernel_rfl)) (fun _ _ _ h => h) (Or.inr ⟨by rfl, rfl⟩) ?_ ?_
           rotate_left
           ·
            simp only [ap]
            rfl
           refine pure_ (i := 22) (N := some 91) (v := undef) (a' := ?_) (bA 33 8388607) rfl rfl (any_of HT_.out (by kernel_rfl)) (fun _ _ _ h => h) (Or.inr ⟨by rfl, rfl⟩) ?_ ?_
           rotate_left
           ·
            simp only [ap]
            rfl
           refine pure_ (i := 23) (N := some 92) (v := undef) (a' := ?_) (bA 33 16777215) rfl rfl (any_of HT_.out (by kernel_rfl)) (fun _ _ _ h => h) (Or.inr ⟨by rfl, rfl⟩) ?_ ?_
           rotate_left
           ·
            simp only [ap]
            rfl
           refine pure_ (i := 24) (N := some 93) (v := undef) (a' := ?_) (bA 33 33554431) rfl rfl (any_of HT_.out (by kernel_rfl)) (fun _ _ _ h => h) (Or.inr ⟨by rfl, rfl⟩) ?_ ?_
           rotate_left
           ·
            simp only [ap]
            rfl
           refine pure_ (i := 25) (N := some 94) (v := ?_) (a' := ?_) (bA 33 67108863) rfl rfl (any_of HT_.out (by kernel_rfl)) (fun _ _ _ h => h) (Or.inl ⟨by rfl, ?_⟩) ?_ ?_
           rotate_left
           ·
            intro w'
            go_simp; with_reducible rfl
           rotate_left
           ·
            simp only [ap]
            rfl
           refine pure_ (i := 26) (N := some 95) (v := ?_) (a' := ?_) (bA 33 134217727) rfl rfl (any_of HT_.out (by kernel_rfl)) (fun _ _ _ h => h) (Or.inl ⟨by rfl, ?_⟩) ?_ ?_
           rotate_left
           ·
            intro w'
            go_simp; with_reducible rfl
           rotate_left
           ·
            simp only [ap]
            rfl
           refine pure_ (i := 27) (N := some 96) (v := undef) (a' := ?_) (bA 33 268435455) rfl rfl (any_of HT_.out (by kernel_rfl)) (fun _ _ _ h => h) (Or.inr ⟨by rfl, rfl⟩) ?_ ?_
           rotate_left
           ·
            simp only [ap]
            rfl
           refine pure_ (i := 28) (N := some 97) (v := undef) (a' := ?_) (bA 33 536870911) rfl rfl (any_of HT_.out (by kernel_rfl)) (fun _ _ _ h => h) (Or.inr ⟨by rfl, rfl⟩) ?_ ?_
           rotate_left
           ·
            simp only [ap]
            rfl
           refine pure_ (i := 29) (N := some 98) (v := undef) (a' := ?_) (bA 33 1073741823) rfl rfl (any_of HT_.out (by kernel_rfl)) (fun _ _ _ h => h) (Or.inr ⟨by rfl, rfl⟩) ?_ ?_
           rotate_left
           ·
            simp only [ap]
            rfl
           refine pure_ (i := 30) (N := some 99) (v := undef) (a' := ?_) (bA 33 2147483647) rfl rfl (any_of HT_.out (by kernel_rfl)) (fun _ _ _ h => h) (Or.inr ⟨by rfl, rfl⟩) ?_ ?_
           rotate_left
           ·
            simp only [ap]
            rfl
           refine pure_ (i := 31) (N := some 100) (v := undef) (a' := ?_) (bA 33 4294967295) rfl rfl (any_of HT_.out (by kernel_rfl)) (fun _ _ _ h => h) (Or.inr ⟨by rfl, rfl⟩) ?_ ?_
           rotate_left
           ·
            simp only [ap]
            rfl
           refine pure_ (i := 32) (N := some 101) (v := ?_) (a' := ?_) (bA 33 8589934591) rfl rfl (any_of HT_.out (by kernel_rfl)) (fun _ _ _ h => h) (Or.inl ⟨by rfl, ?_⟩) ?_ ?_
           rotate_left
           ·
            intro w'
            go_simp; with_reducible rfl
           rotate_left
           ·
            simp only [ap]
            rfl
           refine done_ (done_of HT_.out (by kernel_rfl)) ?_
           try go_wp2
           go_meet
           case rel => exact ⟨_, (true), (by first | rfl | (simp; done) | (simp [*]; done)), H', ⟨by have := HJ2.out; have := HJ29.out; first | omega | exact Nat.le_refl _⟩, ⟨by refine bk ?_; exact BK343.out⟩, ⟨by refine bk ?_; exact BK344.out⟩, ⟨by repeat first | exact HB.out | refine bset ?_ ‹_› | apply below_alloc | apply pw_below_drewN | apply below_drew1⟩⟩
          ·
           rw [if_neg c98] at H
           have c98b0 : (!(t379 == t381) || (!(t380 == t382))) = false := by simpa using c98
           clear c98
           replace H := Option.bind_eq_some_iff.mp H
           obtain ⟨⟨t383, t384⟩, A1060, H⟩ := H
           (try dsimp only at H)
           have A106 := Aside0.mk A1060
           clear A1060
           replace H := Option.bind_eq_some_iff.mp H
           obtain ⟨⟨t385, t386⟩, A1070, H⟩ := H
           (try dsimp only at H)
           have A107 := Aside0.mk A1070
           clear A1070
           by_cases c108 : (!(t383 == t385) || (!(t384 == t386))) = true
           ·
            rw [if_pos c108] at H
            have c108b0 : (!(t383 == t385) || (!(t384 == t386))) = true := c108
            clear c108
            have H' := Aside0.mk H
            clear H
            try go_wp2
            replace BK343 := kd BK343
            replace BK344 := kd BK344
            replace HB := Aside0.mk (below_drew1 HB.out)
            refine start_ (n := 33) (S := fun w' => w'.cell? ⟨gb343, 0, none⟩ = some (.int .i64 a0_0) ∧ w'.cell? ⟨gb343, 1, none⟩ = some (.int .i64 a0_1)) (ds := []) (bA 33 0) (by kernel_rfl) rfl rfl ⟨(blk_cell BK343.out 0).trans rfl, (blk_cell BK343.out 1).trans rfl⟩ (fun hHeld => ?_); refine with_tabW serinettelaw01_NumberSays.tab5 serinettelaw01_NumberSays.bits5 (fun HT_ HW_ => ?_)
            generalize wc.drew = w109 at BK343 BK344 HB hHeld ⊢
            refine take_ (i := 0) (N := some 69) (v := ?_) (a' := ?_) (bA 33 1) rfl rfl (take_ofW HT_.out HW_.out (by kernel_rfl)) (fun _ _ _ h => h) (Or.inl ⟨by rfl, ?_⟩) hHeld ?_ ?_
            rotate_left
            ·
             rintro w' ⟨s0, s1⟩
             go_simp; with_reducible rfl
            rotate_left
            ·
             simp only [ap]
             rfl
            refine take_ (i := 2) (N := some 71) (v := ?_) (a' := ?_) (bA 33 5) rfl rfl (take_ofW HT_.out HW_.out (by kernel_rfl)) (fun _ _ _ h => h) (Or.inl ⟨by rfl, ?_⟩) hHeld ?_ ?_
            rotate_left
            ·
             rintro w' ⟨s0, s1⟩
             go_simp; with_reducible rfl
            rotate_left
            ·
             simp only [ap]
             rfl
            refine one_ (i := 1) (N := some 70) (bA 33 7) rfl rfl (one_of HT_.out (by kernel_rfl)) (by decide) (fun K hK => ?_)
            refine goes_ Try.func43 (by kernel_rfl) rfl #[.agg #[.int .i64 a0_0, .int .i64 a0_1]] (by rfl) rfl rfl (by (try simp only [mp]); first | done | rfl | (simp only [ld]; rfl)) ?_
            with_reducible refine (ratio_Neg.calls kj29 a0_0 a0_1 t371 t372 _ A82.out).mono ?_
            rintro e w110 ⟨rfl, hb⟩
            refine ⟨_, rfl, ?_⟩
            replace BK343 := kb BK343 hb
            replace BK344 := kb BK344 hb
            replace HB := hs' HB (by repeat first | (with_reducible exact HB.out) | refine bl1 ?_ | (with_reducible refine bset ?_ ‹_›) | exact HB.out) hb
            (try clear hb); (try clear hb2); (try clear hk); (try clear hi)
            refine hK.out _ _ ⟨(blk_cell BK343.out 0).trans rfl, (blk_cell BK343.out 1).trans rfl⟩ (fun hHeld => ?_)
            clear hK K
            refine norm_ (a' := ?_) ?_ ?_
            rotate_left
            ·
             show Act.put _ (some 70) _ = _
             simp only [ap]; rfl
            refine one_ (i := 3) (N := some 72) (bA 33 15) rfl rfl (one_of HT_.out (by kernel_rfl)) (by decide) (fun K hK => ?_)
            refine goes_ Try.func44 (by kernel_rfl) rfl #[.agg #[.int .i64 a0_0, .int .i64 a0_1]] (by rfl) rfl rfl (by (try simp only [mp]); first | done | rfl | (simp only [ld]; rfl)) ?_
            with_reducible refine (serinetteref01_Neg.calls kj29 a0_0 a0_1 t373 t374 _ A83.out).mono ?_
            rintro e w111 ⟨rfl, hb⟩
            refine ⟨_, rfl, ?_⟩
            replace BK343 := kb BK343 hb
            replace BK344 := kb BK344 hb
            replace HB := hs' HB (by repeat first | (with_reducible exact HB.out) | refine bl1 ?_ | (with_reducible refine bset ?_ ‹_›) | exact HB.out) hb
            (try clear hb); (try clear hb2); (try clear hk); (try clear hi)
            refine hK.out _ _ ⟨(blk_cell BK343.out 0).trans rfl, (blk_cell BK343.out 1).trans rfl⟩ (fun hHeld => ?_)
            clear hK K
            refine norm_ (a' := ?_) ?_ ?_
            rotate_left
            ·
             show Act.put _ (some 72) _ = _
             simp only [ap]; rfl
            refine pure_ (i := 4) (N := some 73) (v := ?_) (a' := ?_) (bA 33 31) rfl rfl (any_of HT_.out (by kernel_rfl)) (fun _ _ _ h => h) (Or.inl ⟨by rfl, ?_⟩) ?_ ?_
            rotate_left
            ·
             intro w'
             go_simp; with_reducible rfl
            rotate_left
            ·
             simp only [ap]
             rfl
            refine pure_ (i := 5) (N := some 74) (v := ?_) (a' := ?_) (bA 33 63) rfl rfl (any_of HT_.out (by kernel_rfl)) (fun _ _ _ h => h) (Or.inl ⟨by rfl, ?_⟩) ?_ ?_
            rotate_left
            ·
             intro w'
             go_simp; with_reducible rfl
            rotate_left
            ·
             simp only [ap]
             rfl
            refine take_ (i := 6) (N := some 75) (v := ?_) (a' := ?_) (bA 33 127) rfl rfl (take_ofW HT_.out HW_.out (by kernel_rfl)) (fun _ _ _ h => h) (Or.inl ⟨by rfl, ?_⟩) hHeld ?_ ?_
            rotate_left
            ·
             rintro w' ⟨s0, s1⟩
             go_simp; with_reducible rfl
            rotate_left
            ·
             simp only [ap]
             rfl
            refine take_ (i := 8) (N := some 77) (v := ?_) (a' := ?_) (bA 33 383) rfl rfl (take_ofW HT_.out HW_.out (by kernel_rfl)) (fun _ _ _ h => h) (Or.inl ⟨by rfl, ?_⟩) hHeld ?_ ?_
            rotate_left
            ·
             rintro w' ⟨s0, s1⟩
             go_simp; with_reducible rfl
            rotate_left
            ·
             simp only [ap]
             rfl
            refine one_ (i := 7) (N := some 76) (bA 33 511) rfl rfl (one_of HT_.out (by kernel_rfl)) (by decide) (fun K hK => ?_)
            refine goes_ Try.func31 (by kernel_rfl) rfl #[.agg #[.int .i64 a0_0, .int .i64 a0_1]] (by rfl) rfl rfl (by (try simp only [mp]); first | done | rfl | (simp only [ld]; rfl)) ?_
            with_reducible refine (ratio_Abs.calls kj29 a0_0 a0_1 t375 t376 _ A88.out).mono ?_
            rintro e w112 ⟨rfl, hb⟩
            refine ⟨_, rfl, ?_⟩
            replace BK343 := kb BK343 hb
            replace BK344 := kb BK344 hb
            replace HB := hs' HB (by repeat first | (with_reducible exact HB.out) | refine bl1 ?_ | (with_reducible refine bset ?_ ‹_›) | exact HB.out) hb
            (try clear hb); (try clear hb2); (try clear hk); (try clear hi)
            refine hK.out _ _ ⟨(blk_cell BK343.out 0).trans rfl, (blk_cell BK343.out 1).trans rfl⟩ (fun hHeld => ?_)
            clear hK K
            refine norm_ (a' := ?_) ?_ ?_
            rotate_left
            ·
             show Act.put _ (some 76) _ = _
             simp only [ap]; rfl
            refine one_ (i := 9) (N := some 78) (bA 33 1023) rfl rfl (one_of HT_.out (by kernel_rfl)) (by decide) (fun K hK => ?_)
            refine goes_ Try.func45 (by kernel_rfl) rfl #[.agg #[.int .i64 a0_0, .int .i64 a0_1]] (by rfl) rfl rfl (by (try simp only [mp]); first | done | rfl | (simp only [ld]; rfl)) ?_
            with_reducible refine (serinetteref01_Abs.calls kj29 a0_0 a0_1 t377 t378 _ A89.out).mono ?_
            rintro e w113 ⟨rfl, hb⟩
            refine ⟨_, rfl, ?_⟩
            replace BK343 := kb BK343 hb
            replace BK344 := kb BK344 hb
            replace HB := hs' HB (by repeat first | (with_reducible exact HB.out) | refine bl1 ?_ | (with_reducible refine bset ?_ ‹_›) | exact HB.out) hb
            (try clear hb); (try clear hb2); (try clear hk); (try clear hi)
            refine hK.out _ _ ⟨(blk_cell BK343.out 0).trans rfl, (blk_cell BK343.out 1).trans rfl⟩ (fun hHeld => ?_)
            clear hK K
            refine norm_ (a' := ?_) ?_ ?_
            rotate_left
            ·
             show Act.put _ (some 78) _ = _
             simp only [ap]; rfl
            refine pure_ (i := 10) (N := some 79) (v := ?_) (a' := ?_) (bA 33 2047) rfl rfl (any_of HT_.out (by kernel_rfl)) (fun _ _ _ h => h) (Or.inl ⟨by rfl, ?_⟩) ?_ ?_
            rotate_left
            ·
             intro w'
             go_simp; with_reducible rfl
            rotate_left
            ·
             simp only [ap]
             rfl
            refine pure_ (i := 11) (N := some 80) (v := ?_) (a' := ?_) (bA 33 4095) rfl rfl (any_of HT_.out (by kernel_rfl)) (fun _ _ _ h => h) (Or.inl ⟨by rfl, ?_⟩) ?_ ?_
            rotate_left
            ·
             intro w'
             go_simp; with_reducible rfl
            rotate_left
            ·
             simp only [ap]
             rfl
            refine pure_ (i := 12) (N := some 81) (v := ?_) (a' := ?_) (bA 33 8191) rfl rfl (any_of HT_.out (by kernel_rfl)) (fun _ _ _ h => h) (Or.inl ⟨by rfl, ?_⟩) ?_ ?_
            rotate_left
            ·
             intro w'
             go_simp; with_reducible rfl
            rotate_left
            ·
             simp only [ap]
             rfl
            refine take_ (i := 13) (N := some 82) (v := ?_) (a' := ?_) (bA 33 16383) rfl rfl (take_ofW HT_.out HW_.out (by kernel_rfl)) (fun _ _ _ h => h) (Or.inl ⟨by rfl, ?_⟩) hHeld ?_ ?_
            rotate_left
            ·
             rintro w' ⟨s0, s1⟩
             go_simp; with_reducible rfl
            rotate_left
            ·
             simp only [ap]
             rfl
            refine take_ (i := 15) (N := some 84) (v := ?_) (a' := ?_) (bA 33 49151) rfl rfl (take_ofW HT_.out HW_.out (by kernel_rfl)) (fun _ _ _ h => h) (Or.inl ⟨by rfl, ?_⟩) hHeld ?_ ?_
            rotate_left
            ·
             rintro w' ⟨s0, s1⟩
             go_simp; with_reducible rfl
            rotate_left
            ·
             simp only [ap]
             rfl
            refine one_ (i := 14) (N := some 83) (bA 33 65535) rfl rfl (one_of HT_.out (by kernel_rfl)) (by decide) (fun K hK => ?_)
            refine goes_ Try.func28 (by kernel_rfl) rfl #[.agg #[.int .i64 a0_0, .int .i64 a0_1]] (by rfl) rfl rfl (by (try simp only [mp]); first | done | rfl | (simp only [ld]; rfl)) ?_
            with_reducible refine (ratio_Floor.calls kj29 a0_0 a0_1 t379 t380 _ A96.out).mono ?_
            rintro e w114 ⟨rfl, hb⟩
            refine ⟨_, rfl, ?_⟩
            replace BK343 := kb BK343 hb
            replace BK344 := kb BK344 hb
            replace HB := hs' HB (by repeat first | (with_reducible exact HB.out) | refine bl1 ?_ | (with_reducible refine bset ?_ ‹_›) | exact HB.out) hb
            (try clear hb); (try clear hb2); (try clear hk); (try clear hi)
            refine hK.out _ _ ⟨(blk_cell BK343.out 0).trans rfl, (blk_cell BK343.out 1).trans rfl⟩ (fun hHeld => ?_)
            clear hK K
            refine norm_ (a' := ?_) ?_ ?_
            rotate_left
            ·
             show Act.put _ (some 83) _ = _
             simp only [ap]; rfl
            refine one_ (i := 16) (N := some 85) (bA 33 131071) rfl rfl (one_of HT_.out (by kernel_rfl)) (by decide) (fun K hK => ?_)
            refine goes_ Try.func46 (by kernel_rfl) rfl #[.agg #[.int .i64 a0_0, .int .i64 a0_1]] (by rfl) rfl rfl (by (try simp only [mp]); first | done | rfl | (simp only [ld]; rfl)) ?_
            with_reducible refine (serinetteref01_Floor.calls kj29 a0_0 a0_1 t381 t382 _ A97.out).mono ?_
            rintro e w115 ⟨rfl, hb⟩
            refine ⟨_, rfl, ?_⟩
            replace BK343 := kb BK343 hb
            replace BK344 := kb BK344 hb
            replace HB := hs' HB (by repeat first | (with_reducible exact HB.out) | refine bl1 ?_ | (with_reducible refine bset ?_ ‹_›) | exact HB.out) hb
            (try clear hb); (try clear hb2); (try clear hk); (try clear hi)
            refine hK.out _ _ ⟨(blk_cell BK343.out 0).trans rfl, (blk_cell BK343.out 1).trans rfl⟩ (fun hHeld => ?_)
            clear hK K
            refine norm_ (a' := ?_) ?_ ?_
            rotate_left
            ·
             show Act.put _ (some 85) _ = _
             simp only [ap]; rfl
            refine pure_ (i := 17) (N := some 86) (v := ?_) (a' := ?_) (bA 33 262143) rfl rfl (any_of HT_.out (by kernel_rfl)) (fun _ _ _ h => h) (Or.inl ⟨by rfl, ?_⟩) ?_ ?_
            rotate_left
            ·
             intro w'
             go_simp; with_reducible rfl
            rotate_left
            ·
             simp only [ap]
             rfl
            refine pure_ (i := 18) (N := some 87) (v := ?_) (a' := ?_) (bA 33 524287) rfl rfl (any_of HT_.out (by kernel_rfl)) (fun _ _ _ h => h) (Or.inl ⟨by rfl, ?_⟩) ?_ ?_
            rotate_left
            ·
             intro w'
             go_simp; with_reducible rfl
            rotate_left
            ·
             simp only [ap]
             rfl
            refine pure_ (i := 19) (N := some 88) (v := ?_) (a' := ?_) (bA 33 1048575) rfl rfl (any_of HT_.out (by kernel_rfl)) (fun _ _ _ h => h) (Or.inl ⟨by rfl, ?_⟩) ?_ ?_
            rotate_left
            ·
             intro w'
             go_simp; with_reducible rfl
            rotate_left
            ·
             simp only [ap]
             rfl
            refine take_ (i := 20) (N := some 89) (v := ?_) (a' := ?_) (bA 33 2097151) rfl rfl (take_ofW HT_.out HW_.out (by kernel_rfl)) (fun _ _ _ h => h) (Or.inl ⟨by rfl, ?_⟩) hHeld ?_ ?_
            rotate_left
            ·
             rintro w' ⟨s0, s1⟩
             go_simp; with_reducible rfl
            rotate_left
            ·
             simp only [ap]
             rfl
            refine take_ (i := 22) (N := some 91) (v := ?_) (a' := ?_) (bA 33 6291455) rfl rfl (take_ofW HT_.out HW_.out (by kernel_rfl)) (fun _ _ _ h => h) (Or.inl ⟨by rfl, ?_⟩) hHeld ?_ ?_
            rotate_left
            ·
             rintro w' ⟨s0, s1⟩
             go_simp; with_reducible rfl
            rotate_left
            ·
             simp only [ap]
             rfl
            refine one_ (i := 21) (N := some 90) (bA 33 8388607) rfl rfl (one_of HT_.out (by kernel_rfl)) (by decide) (fun K hK => ?_)
            refine goes_ Try.func29 (by kernel_rfl) rfl #[.agg #[.int .i64 a0_0, .int .i64 a0_1]] (by rfl) rfl rfl (by (try simp only [mp]); first | done | rfl | (simp only [ld]; rfl)) ?_
            with_reducible refine (ratio_Round.calls kj29 a0_0 a0_1 t383 t384 _ A106.out).mono ?_
            rintro e w116 ⟨rfl, hb⟩
            refine ⟨_, rfl, ?_⟩
            replace BK343 := kb BK343 hb
            replace BK344 := kb BK344 hb
            replace HB := hs' HB (by repeat first | (with_reducible exact HB.out) | refine bl1 ?_ | (with_reducible refine bset ?_ ‹_›) | exact HB.out) hb
            (try clear hb); (try clear hb2); (try clear hk); (try clear hi)
            refine hK.out _ _ ⟨(blk_cell BK343.out 0).trans rfl, (blk_cell BK343.out 1).trans rfl⟩ (fun hHeld => ?_)
            clear hK K
            refine norm_ (a' := ?_) ?_ ?_
            rotate_left
            ·
             show Act.put _ (some 90) _ = _
             simp only [ap]; rfl
            refine one_ (i := 23) (N := some 92) (bA 33 16777215) rfl rfl (one_of HT_.out (by kernel_rfl)) (by decide) (fun K hK => ?_)
            refine goes_ Try.func47 (by kernel_rfl) rfl #[.agg #[.int .i64 a0_0, .int .i64 a0_1]] (by rfl) rfl rfl (by (try simp only [mp]); first | done | rfl | (simp only [ld]; rfl)) ?_
            with_reducible refine (serinetteref01_Round.calls kj29 a0_0 a0_1 t385 t386 _ A107.out).mono ?_
            rintro e w117 ⟨rfl, hb⟩
            refine ⟨_, rfl, ?_⟩
            replace BK343 := kb BK343 hb
            replace BK344 := kb BK344 hb
            replace HB := hs' HB (by repeat first | (with_reducible exact HB.out) | refine bl1 ?_ | (with_reducible refine bset ?_ ‹_›) | exact HB.out) hb
            (try clear hb); (try clear hb2); (try clear hk); (try clear hi)
            refine hK.out _ _ ⟨(blk_cell BK343.out 0).trans rfl, (blk_cell BK343.out 1).trans rfl⟩ (fun hHeld => ?_)
            clear hK K
            refine norm_ (a' := ?_) ?_ ?_
            rotate_left
            ·
             show Act.put _ (some 92) _ = _
             simp only [ap]; rfl
            refine pure_ (i := 24) (N := some 93) (v := ?_) (a' := ?_) (bA 33 33554431) rfl rfl (any_of HT_.out (by kernel_rfl)) (fun _ _ _ h => h) (Or.inl ⟨by rfl, ?_⟩) ?_ ?_
            rotate_left
            ·
             intro w'
             go_simp; with_reducible rfl
            rotate_left
            ·
             simp only [ap]
             rfl
            refine pure_ (i := 25) (N := some 94) (v := ?_) (a' := ?_) (bA 33 67108863) rfl rfl (any_of HT_.out (by kernel_rfl)) (fun _ _ _ h => h) (Or.inl ⟨by rfl, ?_⟩) ?_ ?_
            rotate_left
            ·
             intro w'
             go_simp; with_reducible rfl
            rotate_left
            ·
             simp only [ap]
             rfl
            refine pure_ (i := 26) (N := some 95) (v := ?_) (a' := ?_) (bA 33 134217727) rfl rfl (any_of HT_.out (by kernel_rfl)) (fun _ _ _ h => h) (Or.inl ⟨by rfl, ?_⟩) ?_ ?_
            rotate_left
            ·
             intro w'
             go_simp; with_reducible rfl
            rotate_left
            ·
             simp only [ap]
             rfl
            refine pure_ (i := 27) (N := some 96) (v := undef) (a' := ?_) (bA 33 268435455) rfl rfl (any_of HT_.out (by kernel_rfl)) (fun _ _ _ h => h) (Or.inr ⟨by rfl, rfl⟩) ?_ ?_
            rotate_left
            ·
             simp only [ap]
             rfl
            refine pure_ (i := 28) (N := some 97) (v := undef) (a' := ?_) (bA 33 536870911) rfl rfl (any_of HT_.out (by kernel_rfl)) (fun _ _ _ h => h) (Or.inr ⟨by rfl, rfl⟩) ?_ ?_
            rotate_left
            ·
             simp only [ap]
             rfl
            refine pure_ (i := 29) (N := some 98) (v := undef) (a' := ?_) (bA 33 1073741823) rfl rfl (any_of HT_.out (by kernel_rfl)) (fun _ _ _ h => h) (Or.inr ⟨by rfl, rfl⟩) ?_ ?_
            rotate_left
            ·
             simp only [ap]
             rfl
            refine pure_ (i := 30) (N := some 99) (v := undef) (a' := ?_) (bA 33 2147483647) rfl rfl (any_of HT_.out (by kernel_rfl)) (fun _ _ _ h => h) (Or.inr ⟨by rfl, rfl⟩) ?_ ?_
            rotate_left
            ·
             simp only [ap]
             rfl
            refine pure_ (i := 31) (N := some 100) (v := undef) (a' := ?_) (bA 33 4294967295) rfl rfl (any_of HT_.out (by kernel_rfl)) (fun _ _ _ h => h) (Or.inr ⟨by rfl, rfl⟩) ?_ ?_
            rotate_left
            ·
             simp only [ap]
             rfl
            refine pure_ (i := 32) (N := some 101) (v := ?_) (a' := ?_) (bA 33 8589934591) rfl rfl (any_of HT_.out (by kernel_rfl)) (fun _ _ _ h => h) (Or.inl ⟨by rfl, ?_⟩) ?_ ?_
            rotate_left
            ·
             intro w'
             go_simp; with_reducible rfl
            rotate_left
            ·
             simp only [ap]
             rfl
            refine done_ (done_of HT_.out (by kernel_rfl)) ?_
            try go_wp2
            go_meet
            case rel => exact ⟨_, (true), (by first | rfl | (simp; done) | (simp [*]; done)), H', ⟨by have := HJ2.out; have := HJ29.out; first | omega | exact Nat.le_refl _⟩, ⟨by refine bk ?_; exact BK343.out⟩, ⟨by refine bk ?_; exact BK344.out⟩, ⟨by repeat first | exact HB.out | refine bset ?_ ‹_› | apply below_alloc | apply pw_below_drewN | apply below_drew1⟩⟩
           ·
            rw [if_neg c108] at H
            have c108b0 : (!(t383 == t385) || (!(t384 == t386))) = false := by simpa using c108
            clear c108
            replace H := Option.bind_eq_some_iff.mp H
            obtain ⟨⟨t387, t388⟩, A1180, H⟩ := H
            (try dsimp only at H)
            have A118 := Aside0.mk A1180
            clear A1180
            replace H := Option.bind_eq_some_iff.mp H
            obtain ⟨⟨t389, t390⟩, A1190, H⟩ := H
            (try dsimp only at H)
            have A119 := Aside0.mk A1190
            clear A1190
            have H' := Aside0.mk H
            clear H
            try go_wp2
            replace BK343 := kd BK343
            replace BK344 := kd BK344
            replace HB := Aside0.mk (below_drew1 HB.out)
            refine start_ (n := 33) (S := fun w' => w'.cell? ⟨gb343, 0, none⟩ = some (.int .i64 a0_0) ∧ w'.cell? ⟨gb343, 1, none⟩ = some (.int .i64 a0_1)) (ds := []) (bA 33 0) (by kernel_rfl) rfl rfl ⟨(blk_cell BK343.out 0).trans rfl, (blk_cell BK343.out 1).trans rfl⟩ (fun hHeld => ?_); refine with_tabW serinettelaw01_NumberSays.tab5 serinettelaw01_NumberSays.bits5 (fun HT_ HW_ => ?_)
            generalize wc.drew = w120 at BK343 BK344 HB hHeld ⊢
            refine take_ (i := 0) (N := some 69) (v := ?_) (a' := ?_) (bA 33 1) rfl rfl (take_ofW HT_.out HW_.out (by kernel_rfl)) (fun _ _ _ h => h) (Or.inl ⟨by rfl, ?_⟩) hHeld ?_ ?_
            rotate_left
            ·
             rintro w' ⟨s0, s1⟩
             go_simp; with_reducible rfl
            rotate_left
            ·
             simp only [ap]
             rfl
            refine take_ (i := 2) (N := some 71) (v := ?_) (a' := ?_) (bA 33 5) rfl rfl (take_ofW HT_.out HW_.out (by kernel_rfl)) (fun _ _ _ h => h) (Or.inl ⟨by rfl, ?_⟩) hHeld ?_ ?_
            rotate_left
            ·
             rintro w' ⟨s0, s1⟩
             go_simp; with_reducible rfl
            rotate_left
            ·
             simp only [ap]
             rfl
            refine one_ (i := 1) (N := some 70) (bA 33 7) rfl rfl (one_of HT_.out (by kernel_rfl)) (by decide) (fun K hK => ?_)
            refine goes_ Try.func43 (by kernel_rfl) rfl #[.agg #[.int .i64 a0_0, .int .i64 a0_1]] (by rfl) rfl rfl (by (try simp only [mp]); first | done | rfl | (simp only [ld]; rfl)) ?_
            with_reducible refine (ratio_Neg.calls kj29 a0_0 a0_1 t371 t372 _ A82.out).mono ?_
            rintro e w121 ⟨rfl, hb⟩
            refine ⟨_, rfl, ?_⟩
            replace BK343 := kb BK343 hb
            replace BK344 := kb BK344 hb
            replace HB := hs' HB (by repeat first | (with_reducible exact HB.out) | refine bl1 ?_ | (with_reducible refine bset ?_ ‹_›) | exact HB.out) hb
            (try clear hb); (try clear hb2); (try clear hk); (try clear hi)
            refine hK.out _ _ ⟨(blk_cell BK343.out 0).trans rfl, (blk_cell BK343.out 1).trans rfl⟩ (fun hHeld => ?_)
            clear hK K
            refine norm_ (a' := ?_) ?_ ?_
            rotate_left
            ·
             show Act.put _ (some 70) _ = _
             simp only [ap]; rfl
            refine one_ (i := 3) (N := some 72) (bA 33 15) rfl rfl (one_of HT_.out (by kernel_rfl)) (by decide) (fun K hK => ?_)
            refine goes_ Try.func44 (by kernel_rfl) rfl #[.agg #[.int .i64 a0_0, .int .i64 a0_1]] (by rfl) rfl rfl (by (try simp only [mp]); first | done | rfl | (simp only [ld]; rfl)) ?_
            with_reducible refine (serinetteref01_Neg.calls kj29 a0_0 a0_1 t373 t374 _ A83.out).mono ?_
            rintro e w122 ⟨rfl, hb⟩
            refine ⟨_, rfl, ?_⟩
            replace BK343 := kb BK343 hb
            replace BK344 := kb BK344 hb
            replace HB := hs' HB (by repeat first | (with_reducible exact HB.out) | refine bl1 ?_ | (with_reducible refine bset ?_ ‹_›) | exact HB.out) hb
            (try clear hb); (try clear hb2); (try clear hk); (try clear hi)
            refine hK.out _ _ ⟨(blk_cell BK343.out 0).trans rfl, (blk_cell BK343.out 1).trans rfl⟩ (fun hHeld => ?_)
            clear hK K
            refine norm_ (a' := ?_) ?_ ?_
            rotate_left
            ·
             show Act.put _ (some 72) _ = _
             simp only [ap]; rfl
            refine pure_ (i := 4) (N := some 73) (v := ?_) (a' := ?_) (bA 33 31) rfl rfl (any_of HT_.out (by kernel_rfl)) (fun _ _ _ h => h) (Or.inl ⟨by rfl, ?_⟩) ?_ ?_
            rotate_left
            ·
             intro w'
             go_simp; with_reducible rfl
            rotate_left
            ·
             simp only [ap]
             rfl
            refine pure_ (i := 5) (N := some 74) (v := ?_) (a' := ?_) (bA 33 63) rfl rfl (any_of HT_.out (by kernel_rfl)) (fun _ _ _ h => h) (Or.inl ⟨by rfl, ?_⟩) ?_ ?_
            rotate_left
            ·
             intro w'
             go_simp; with_reducible rfl
            rotate_left
            ·
             simp only [ap]
             rfl
            refine take_ (i := 6) (N := some 75) (v := ?_) (a' := ?_) (bA 33 127) rfl rfl (take_ofW HT_.out HW_.out (by kernel_rfl)) (fun _ _ _ h => h) (Or.inl ⟨by rfl, ?_⟩) hHeld ?_ ?_
            rotate_left
            ·
             rintro w' ⟨s0, s1⟩
             go_simp; with_reducible rfl
            rotate_left
            ·
             simp only [ap]
             rfl
            refine take_ (i := 8) (N := some 77) (v := ?_) (a' := ?_) (bA 33 383) rfl rfl (take_ofW HT_.out HW_.out (by kernel_rfl)) (fun _ _ _ h => h) (Or.inl ⟨by rfl, ?_⟩) hHeld ?_ ?_
            rotate_left
            ·
             rintro w' ⟨s0, s1⟩
             go_simp; with_reducible rfl
            rotate_left
            ·
             simp only [ap]
             rfl
            refine one_ (i := 7) (N := some 76) (bA 33 511) rfl rfl (one_of HT_.out (by kernel_rfl)) (by decide) (fun K hK => ?_)
            refine goes_ Try.func31 (by kernel_rfl) rfl #[.agg #[.int .i64 a0_0, .int .i64 a0_1]] (by rfl) rfl rfl (by (try simp only [mp]); first | done | rfl | (simp only [ld]; rfl)) ?_
            with_reducible refine (ratio_Abs.calls kj29 a0_0 a0_1 t375 t376 _ A88.out).mono ?_
            rintro e w123 ⟨rfl, hb⟩
            refine ⟨_, rfl, ?_⟩
            replace BK343 := kb BK343 hb
            replace BK344 := kb BK344 hb
            replace HB := hs' HB (by repeat first | (with_reducible exact HB.out) | refine bl1 ?_ | (with_reducible refine bset ?_ ‹_›) | exact HB.out) hb
            (try clear hb); (try clear hb2); (try clear hk); (try clear hi)
            refine hK.out _ _ ⟨(blk_cell BK343.out 0).trans rfl, (blk_cell BK343.out 1).trans rfl⟩ (fun hHeld => ?_)
            clear hK K
            refine norm_ (a' := ?_) ?_ ?_
            rotate_left
            ·
             show Act.put _ (some 76) _ = _
             simp only [ap]; rfl
            refine one_ (i := 9) (N := some 78) (bA 33 1023) rfl rfl (one_of HT_.out (by kernel_rfl)) (by decide) (fun K hK => ?_)
            refine goes_ Try.func45 (by kernel_rfl) rfl #[.agg #[.int .i64 a0_0, .int .i64 a0_1]] (by rfl) rfl rfl (by (try simp only [mp]); first | done | rfl | (simp only [ld]; rfl)) ?_
            with_reducible refine (serinetteref01_Abs.calls kj29 a0_0 a0_1 t377 t378 _ A89.out).mono ?_
            rintro e w124 ⟨rfl, hb⟩
            refine ⟨_, rfl, ?_⟩
            replace BK343 := kb BK343 hb
            replace BK344 := kb BK344 hb
            replace HB := hs' HB (by repeat first | (with_reducible exact HB.out) | refine bl1 ?_ | (with_reducible refine bset ?_ ‹_›) | exact HB.out) hb
            (try clear hb); (try clear hb2); (try clear hk); (try clear hi)
            refine hK.out _ _ ⟨(blk_cell BK343.out 0).trans rfl, (blk_cell BK343.out 1).trans rfl⟩ (fun hHeld => ?_)
            clear hK K
            refine norm_ (a' := ?_) ?_ ?_
            rotate_left
            ·
             show Act.put _ (some 78) _ = _
             simp only [ap]; rfl
            refine pure_ (i := 10) (N := some 79) (v := ?_) (a' := ?_) (bA 33 2047) rfl rfl (any_of HT_.out (by kernel_rfl)) (fun _ _ _ h => h) (Or.inl ⟨by rfl, ?_⟩) ?_ ?_
            rotate_left
            ·
             intro w'
             go_simp; with_reducible rfl
            rotate_left
            ·
             simp only [ap]
             rfl
            refine pure_ (i := 11) (N := some 80) (v := ?_) (a' := ?_) (bA 33 4095) rfl rfl (any_of HT_.out (by kernel_rfl)) (fun _ _ _ h => h) (Or.inl ⟨by rfl, ?_⟩) ?_ ?_
            rotate_left
            ·
             intro w'
             go_simp; with_reducible rfl
            rotate_left
            ·
             simp only [ap]
             rfl
            refine pure_ (i := 12) (N := some 81) (v := ?_) (a' := ?_) (bA 33 8191) rfl rfl (any_of HT_.out (by kernel_rfl)) (fun _ _ _ h => h) (Or.inl ⟨by rfl, ?_⟩) ?_ ?_
            rotate_left
            ·
             intro w'
             go_simp; with_reducible rfl
            rotate_left
            ·
             simp only [ap]
             rfl
            refine take_ (i := 13) (N := some 82) (v := ?_) (a' := ?_) (bA 33 16383) rfl rfl (take_ofW HT_.out HW_.out (by kernel_rfl)) (fun _ _ _ h => h) (Or.inl ⟨by rfl, ?_⟩) hHeld ?_ ?_
            rotate_left
            ·
             rintro w' ⟨s0, s1⟩
             go_simp; with_reducible rfl
            rotate_left
            ·
             simp only [ap]
             rfl
            refine take_ (i := 15) (N := some 84) (v := ?_) (a' := ?_) (bA 33 49151) rfl rfl (take_ofW HT_.out HW_.out (by kernel_rfl)) (fun _ _ _ h => h) (Or.inl ⟨by rfl, ?_⟩) hHeld ?_ ?_
            rotate_left
            ·
             rintro w' ⟨s0, s1⟩
             go_simp; with_reducible rfl
            rotate_left
            ·
             simp only [ap]
             rfl
            refine one_ (i := 14) (N := some 83) (bA 33 65535) rfl rfl (one_of HT_.out (by kernel_rfl)) (by decide) (fun K hK => ?_)
            refine goes_ Try.func28 (by kernel_rfl) rfl #[.agg #[.int .i64 a0_0, .int .i64 a0_1]] (by rfl) rfl rfl (by (try simp only [mp]); first | done | rfl | (simp only [ld]; rfl)) ?_
            with_reducible refine (ratio_Floor.calls kj29 a0_0 a0_1 t379 t380 _ A96.out).mono ?_
            rintro e w125 ⟨rfl, hb⟩
            refine ⟨_, rfl, ?_⟩
            replace BK343 := kb BK343 hb
            replace BK344 := kb BK344 hb
            replace HB := hs' HB (by repeat first | (with_reducible exact HB.out) | refine bl1 ?_ | (with_reducible refine bset ?_ ‹_›) | exact HB.out) hb
            (try clear hb); (try clear hb2); (try clear hk); (try clear hi)
            refine hK.out _ _ ⟨(blk_cell BK343.out 0).trans rfl, (blk_cell BK343.out 1).trans rfl⟩ (fun hHeld => ?_)
            clear hK K
            refine norm_ (a' := ?_) ?_ ?_
            rotate_left
            ·
             show Act.put _ (some 83) _ = _
             simp only [ap]; rfl
            refine one_ (i := 16) (N := some 85) (bA 33 131071) rfl rfl (one_of HT_.out (by kernel_rfl)) (by decide) (fun K hK => ?_)
            refine goes_ Try.func46 (by kernel_rfl) rfl #[.agg #[.int .i64 a0_0, .int .i64 a0_1]] (by rfl) rfl rfl (by (try simp only [mp]); first | done | rfl | (simp only [ld]; rfl)) ?_
            with_reducible refine (serinetteref01_Floor.calls kj29 a0_0 a0_1 t381 t382 _ A97.out).mono ?_
            rintro e w126 ⟨rfl, hb⟩
            refine ⟨_, rfl, ?_⟩
            replace BK343 := kb BK343 hb
            replace BK344 := kb BK344 hb
            replace HB := hs' HB (by repeat first | (with_reducible exact HB.out) | refine bl1 ?_ | (with_reducible refine bset ?_ ‹_›) | exact HB.out) hb
            (try clear hb); (try clear hb2); (try clear hk); (try clear hi)
            refine hK.out _ _ ⟨(blk_cell BK343.out 0).trans rfl, (blk_cell BK343.out 1).trans rfl⟩ (fun hHeld => ?_)
            clear hK K
            refine norm_ (a' := ?_) ?_ ?_
            rotate_left
            ·
             show Act.put _ (some 85) _ = _
             simp only [ap]; rfl
            refine pure_ (i := 17) (N := some 86) (v := ?_) (a' := ?_) (bA 33 262143) rfl rfl (any_of HT_.out (by kernel_rfl)) (fun _ _ _ h => h) (Or.inl ⟨by rfl, ?_⟩) ?_ ?_
            rotate_left
            ·
             intro w'
             go_simp; with_reducible rfl
            rotate_left
            ·
             simp only [ap]
             rfl
            refine pure_ (i := 18) (N := some 87) (v := ?_) (a' := ?_) (bA 33 524287) rfl rfl (any_of HT_.out (by kernel_rfl)) (fun _ _ _ h => h) (Or.inl ⟨by rfl, ?_⟩) ?_ ?_
            rotate_left
            ·
             intro w'
             go_simp; with_reducible rfl
            rotate_left
            ·
             simp only [ap]
             rfl
            refine pure_ (i := 19) (N := some 88) (v := ?_) (a' := ?_) (bA 33 1048575) rfl rfl (any_of HT_.out (by kernel_rfl)) (fun _ _ _ h => h) (Or.inl ⟨by rfl, ?_⟩) ?_ ?_
            rotate_left
            ·
             intro w'
             go_simp; with_reducible rfl
            rotate_left
            ·
             simp only [ap]
             rfl
            refine take_ (i := 20) (N := some 89) (v := ?_) (a' := ?_) (bA 33 2097151) rfl rfl (take_ofW HT_.out HW_.out (by kernel_rfl)) (fun _ _ _ h => h) (Or.inl ⟨by rfl, ?_⟩) hHeld ?_ ?_
            rotate_left
            ·
             rintro w' ⟨s0, s1⟩
             go_simp; with_reducible rfl
            rotate_left
            ·
             simp only [ap]
             rfl
            refine take_ (i := 22) (N := some 91) (v := ?_) (a' := ?_) (bA 33 6291455) rfl rfl (take_ofW HT_.out HW_.out (by kernel_rfl)) (fun _ _ _ h => h) (Or.inl ⟨by rfl, ?_⟩) hHeld ?_ ?_
            rotate_left
            ·
             rintro w' ⟨s0, s1⟩
             go_simp; with_reducible rfl
            rotate_left
            ·
             simp only [ap]
             rfl
            refine one_ (i := 21) (N := some 90) (bA 33 8388607) rfl rfl (one_of HT_.out (by kernel_rfl)) (by decide) (fun K hK => ?_)
            refine goes_ Try.func29 (by kernel_rfl) rfl #[.agg #[.int .i64 a0_0, .int .i64 a0_1]] (by rfl) rfl rfl (by (try simp only [mp]); first | done | rfl | (simp only [ld]; rfl)) ?_
            with_reducible refine (ratio_Round.calls kj29 a0_0 a0_1 t383 t384 _ A106.out).mono ?_
            rintro e w127 ⟨rfl, hb⟩
            refine ⟨_, rfl, ?_⟩
            replace BK343 := kb BK343 hb
            replace BK344 := kb BK344 hb
            replace HB := hs' HB (by repeat first | (with_reducible exact HB.out) | refine bl1 ?_ | (with_reducible refine bset ?_ ‹_›) | exact HB.out) hb
            (try clear hb); (try clear hb2); (try clear hk); (try clear hi)
            refine hK.out _ _ ⟨(blk_cell BK343.out 0).trans rfl, (blk_cell BK343.out 1).trans rfl⟩ (fun hHeld => ?_)
            clear hK K
            refine norm_ (a' := ?_) ?_ ?_
            rotate_left
            ·
             show Act.put _ (some 90) _ = _
             simp only [ap]; rfl
            refine one_ (i := 23) (N := some 92) (bA 33 16777215) rfl rfl (one_of HT_.out (by kernel_rfl)) (by decide) (fun K hK => ?_)
            refine goes_ Try.func47 (by kernel_rfl) rfl #[.agg #[.int .i64 a0_0, .int .i64 a0_1]] (by rfl) rfl rfl (by (try simp only [mp]); first | done | rfl | (simp only [ld]; rfl)) ?_
            with_reducible refine (serinetteref01_Round.calls kj29 a0_0 a0_1 t385 t386 _ A107.out).mono ?_
            rintro e w128 ⟨rfl, hb⟩
            refine ⟨_, rfl, ?_⟩
            replace BK343 := kb BK343 hb
            replace BK344 := kb BK344 hb
            replace HB := hs' HB (by repeat first | (with_reducible exact HB.out) | refine bl1 ?_ | (with_reducible refine bset ?_ ‹_›) | exact HB.out) hb
            (try clear hb); (try clear hb2); (try clear hk); (try clear hi)
            refine hK.out _ _ ⟨(blk_cell BK343.out 0).trans rfl, (blk_cell BK343.out 1).trans rfl⟩ (fun hHeld => ?_)
            clear hK K
            refine norm_ (a' := ?_) ?_ ?_
            rotate_left
            ·
             show Act.put _ (some 92) _ = _
             simp only [ap]; rfl
            refine pure_ (i := 24) (N := some 93) (v := ?_) (a' := ?_) (bA 33 33554431) rfl rfl (any_of HT_.out (by kernel_rfl)) (fun _ _ _ h => h) (Or.inl ⟨by rfl, ?_⟩) ?_ ?_
            rotate_left
            ·
             intro w'
             go_simp; with_reducible rfl
            rotate_left
            ·
             simp only [ap]
             rfl
            refine pure_ (i := 25) (N := some 94) (v := ?_) (a' := ?_) (bA 33 67108863) rfl rfl (any_of HT_.out (by kernel_rfl)) (fun _ _ _ h => h) (Or.inl ⟨by rfl, ?_⟩) ?_ ?_
            rotate_left
            ·
             intro w'
             go_simp; with_reducible rfl
            rotate_left
            ·
             simp only [ap]
             rfl
            refine pure_ (i := 26) (N := some 95) (v := ?_) (a' := ?_) (bA 33 134217727) rfl rfl (any_of HT_.out (by kernel_rfl)) (fun _ _ _ h => h) (Or.inl ⟨by rfl, ?_⟩) ?_ ?_
            rotate_left
            ·
             intro w'
             go_simp; with_reducible rfl
            rotate_left
            ·
             simp only [ap]
             rfl
            refine take_ (i := 27) (N := some 96) (v := ?_) (a' := ?_) (bA 33 268435455) rfl rfl (take_ofW HT_.out HW_.out (by kernel_rfl)) (fun _ _ _ h => h) (Or.inl ⟨by rfl, ?_⟩) hHeld ?_ ?_
            rotate_left
            ·
             rintro w' ⟨s0, s1⟩
             go_simp; with_reducible rfl
            rotate_left
            ·
             simp only [ap]
             rfl
            refine take_ (i := 29) (N := some 98) (v := ?_) (a' := ?_) (bA 33 805306367) rfl rfl (take_ofW HT_.out HW_.out (by kernel_rfl)) (fun _ _ _ h => h) (Or.inl ⟨by rfl, ?_⟩) hHeld ?_ ?_
            rotate_left
            ·
             rintro w' ⟨s0, s1⟩
             go_simp; with_reducible rfl
            rotate_left
            ·
             simp only [ap]
             rfl
            refine one_ (i := 28) (N := some 97) (bA 33 1073741823) rfl rfl (one_of HT_.out (by kernel_rfl)) (by decide) (fun K hK => ?_)
            refine goes_ Try.func30 (by kernel_rfl) rfl #[.agg #[.int .i64 a0_0, .int .i64 a0_1]] (by rfl) rfl rfl (by (try simp only [mp]); first | done | rfl | (simp only [ld]; rfl)) ?_
            with_reducible refine (ratio_Frac.calls kj29 a0_0 a0_1 t387 t388 _ A118.out).mono ?_
            rintro e w129 ⟨rfl, hb⟩
            refine ⟨_, rfl, ?_⟩
            replace BK343 := kb BK343 hb
            replace BK344 := kb BK344 hb
            replace HB := hs' HB (by repeat first | (with_reducible exact HB.out) | refine bl1 ?_ | (with_reducible refine bset ?_ ‹_›) | exact HB.out) hb
            (try clear hb); (try clear hb2); (try clear hk); (try clear hi)
            refine hK.out _ _ ⟨(blk_cell BK343.out 0).trans rfl, (blk_cell BK343.out 1).trans rfl⟩ (fun hHeld => ?_)
            clear hK K
            refine norm_ (a' := ?_) ?_ ?_
            rotate_left
            ·
             show Act.put _ (some 97) _ = _
             simp only [ap]; rfl
            refine one_ (i := 30) (N := some 99) (bA 33 2147483647) rfl rfl (one_of HT_.out (by kernel_rfl)) (by decide) (fun K hK => ?_)
            refine goes_ Try.func48 (by kernel_rfl) rfl #[.agg #[.int .i64 a0_0, .int .i64 a0_1]] (by rfl) rfl rfl (by (try simp only [mp]); first | done | rfl | (simp only [ld]; rfl)) ?_
            with_reducible refine (serinetteref01_Frac.calls kj29 a0_0 a0_1 t389 t390 _ A119.out).mono ?_
            rintro e w130 ⟨rfl, hb⟩
            refine ⟨_, rfl, ?_⟩
            replace BK343 := kb BK343 hb
            replace BK344 := kb BK344 hb
            replace HB := hs' HB (by repeat first | (with_reducible exact HB.out) | refine bl1 ?_ | (with_reducible refine bset ?_ ‹_›) | exact HB.out) hb
            (try clear hb); (try clear hb2); (try clear hk); (try clear hi)
            refine hK.out _ _ ⟨(blk_cell BK343.out 0).trans rfl, (blk_cell BK343.out 1).trans rfl⟩ (fun hHeld => ?_)
            clear hK K
            refine norm_ (a' := ?_) ?_ ?_
            rotate_left
            ·
             show Act.put _ (some 99) _ = _
             simp only [ap]; rfl
            refine pure_ (i := 31) (N := some 100) (v := ?_) (a' := ?_) (bA 33 4294967295) rfl rfl (any_of HT_.out (by kernel_rfl)) (fun _ _ _ h => h) (Or.inl ⟨by rfl, ?_⟩) ?_ ?_
            rotate_left
            ·
             intro w'
             go_simp; with_reducible rfl
            rotate_left
            ·
             simp only [ap]
             rfl
            refine pure_ (i := 32) (N := some 101) (v := ?_) (a' := ?_) (bA 33 8589934591) rfl rfl (any_of HT_.out (by kernel_rfl)) (fun _ _ _ h => h) (Or.inl ⟨by rfl, ?_⟩) ?_ ?_
            rotate_left
            ·
             intro w'
             go_simp; with_reducible rfl
            rotate_left
            ·
             simp only [ap]
             rfl
            refine done_ (done_of HT_.out (by kernel_rfl)) ?_
            try go_wp2
            go_meet
            case rel => exact ⟨_, ((!(t387 == t389) || (!(t388 == t390)))), (by first | rfl | (simp; done) | (simp [*]; done)), H', ⟨by have := HJ2.out; have := HJ29.out; first | omega | exact Nat.le_refl _⟩, ⟨by refine bk ?_; exact BK343.out⟩, ⟨by refine bk ?_; exact BK344.out⟩, ⟨by repeat first | exact HB.out | refine bset ?_ ‹_› | apply below_alloc | apply pw_below_drewN | apply below_drew1⟩⟩
       case rest =>
        clear HC81
        (try clear c1); (try clear c2); (try clear p2); (try clear c3); (try clear c4); (try clear c10); (try clear c28); (try clear c29); (try clear c30); (try clear c31); (try clear c43); (try clear c44); (try clear c45); (try clear c46); (try clear c47); (try clear c48); (try clear c108); (try clear c108b0)
        obtain ⟨kq, x101_80, rfl, HA, HJ80, BK343, BK344, HB⟩ := hcut
        cases kq with
        | zero => exact absurd HA.out (by simp [serinettelaw01_NumberSays.j2])
        | succ kj80 =>
         have H := HA.out
         clear HA
         simp only [serinettelaw01_NumberSays.j2] at H
         by_cases c131 : x101_80 = true
         ·
          subst c131
          rw [if_pos rfl] at H
          exact absurd (H.trans (congrArg some hr.out)) (by simp)
         ·
          replace c131 := Bool.eq_false_iff.mpr c131
          subst c131
          rw [if_neg (show ¬ (false = true) by decide)] at H
          replace H := Option.bind_eq_some_iff.mp H
          obtain ⟨⟨t391, t392⟩, A1320, H⟩ := H
          (try dsimp only at H)
          have A132 := Aside0.mk A1320
          clear A1320
          replace H := Option.bind_eq_some_iff.mp H
          obtain ⟨⟨t393, t394⟩, A1330, H⟩ := H
          (try dsimp only at H)
          have A133 := Aside0.mk A1330
          clear A1330
          by_cases c134 : (t391 == t393 && (t392 == t394)) = true
          ·
           rw [if_pos c134] at H
           have c134b0 : (t391 == t393 && (t392 == t394)) = true := c134
           (try (have c134b1 : decide (t391 = t393 && (t392 == t394)) = true := by simpa using c134))
           (try (have c134b2 : (t391 == t393 && (t392 == t394)) = true := by simpa using c134))
           clear c134
           replace H := Option.bind_eq_some_iff.mp H
           obtain ⟨⟨t395, t396⟩, A1350, H⟩ := H
           (try dsimp only at H)
           have A135 := Aside0.mk A1350
           clear A1350
           replace H := Option.bind_eq_some_iff.mp H
           obtain ⟨⟨t397, t398⟩, A1360, H⟩ := H
           (try dsimp only at H)
           have A136 := Aside0.mk A1360
           clear A1360
           by_cases c137 : (t395 == t397 && (t396 == t398)) = true
           ·
            rw [if_pos c137] at H
            have c137b0 : (t395 == t397 && (t396 == t398)) = true := c137
            (try (have c137b1 : decide (t395 = t397 && (t396 == t398)) = true := by simpa using c137))
            (try (have c137b2 : (t395 == t397 && (t396 == t398)) = true := by simpa using c137))
            clear c137
            replace H := Option.bind_eq_some_iff.mp H
            obtain ⟨t399, A1380, H⟩ := H
            (try dsimp only at H)
            have A138 := Aside0.mk A1380
            clear A1380
            obtain rfl := Option.some.inj H
            try go_wp2
            replace BK343 := kd BK343
            replace BK344 := kd BK344
            replace HB := Aside0.mk (below_drew1 HB.out)
            refine start_ (n := 20) (S := fun w' => w'.cell? ⟨gb343, 0, none⟩ = some (.int .i64 a0_0) ∧ w'.cell? ⟨gb343, 1, none⟩ = some (.int .i64 a0_1) ∧ w'.cell? ⟨gb344, 0, none⟩ = some (.int .i64 a1_0) ∧ w'.cell? ⟨gb344, 1, none⟩ = some (.int .i64 a1_1)) (ds := []) (bA 20 0) (by kernel_rfl) rfl rfl ⟨(blk_cell BK343.out 0).trans rfl, (blk_cell BK343.out 1).trans rfl, (blk_cell BK344.out 0).trans rfl, (blk_cell BK344.out 1).trans rfl⟩ (fun hHeld => ?_); refine with_tabW serinettelaw01_NumberSays.tab7 serinettelaw01_NumberSays.bits7 (fun HT_ HW_ => ?_)
            generalize wc.drew = w139 at BK343 BK344 HB hHeld ⊢
            refine take_ (i := 0) (N := some 102) (v := ?_) (a' := ?_) (bA 20 1) rfl rfl (take_ofW HT_.out HW_.out (by kernel_rfl)) (fun _ _ _ h => h) (Or.inl ⟨by rfl, ?_⟩) hHeld ?_ ?_
            rotate_left
            ·
             rintro w' ⟨s0, s1, s2, s3⟩
             go_simp; with_reducible rfl
            rotate_left
            ·
             simp only [ap]
             rfl
            refine take_ (i := 1) (N := some 103) (v := ?_) (a' := ?_) (bA 20 3) rfl rfl (take_ofW HT_.out HW_.out (by kernel_rfl)) (fun _ _ _ h => h) (Or.inl ⟨by rfl, ?_⟩) hHeld ?_ ?_
            rotate_left
            ·
             rintro w' ⟨s0, s1, s2, s3⟩
             go_simp; with_reducible rfl
            rotate_left
            ·
             simp only [ap]
             rfl
            refine take_ (i := 3) (N := some 105) (v := ?_) (a' := ?_) (bA 20 11) rfl rfl (take_ofW HT_.out HW_.out (by kernel_rfl)) (fun _ _ _ h => h) (Or.inl ⟨by rfl, ?_⟩) hHeld ?_ ?_
            rotate_left
            ·
             rintro w' ⟨s0, s1, s2, s3⟩
             go_simp; with_reducible rfl
            rotate_left
            ·
             simp only [ap]
             rfl
            refine take_ (i := 4) (N := some 106) (v := ?_) (a' := ?_) (bA 20 27) rfl rfl (take_ofW HT_.out HW_.out (by kernel_rfl)) (fun _ _ _ h => h) (Or.inl ⟨by rfl, ?_⟩) hHeld ?_ ?_
            rotate_left
            ·
             rintro w' ⟨s0, s1, s2, s3⟩
             go_simp; with_reducible rfl
            rotate_left
            ·
             simp only [ap]
             rfl
            refine one_ (i := 2) (N := some 104) (bA 20 31) rfl rfl (one_of HT_.out (by kernel_rfl)) (by decide) (fun K hK => ?_)
            refine goes_ Try.func15 (by kernel_rfl) rfl #[.agg #[.int .i64 a0_0, .int .i64 a0_1], .agg #[.int .i64 a1_0, .int .i64 a1_1]] (by rfl) rfl rfl (by (try simp only [mp]); first | done | rfl | (simp only [ld]; rfl)) ?_
            with_reducible refine (ratio_Min.calls kj80 a0_0 a0_1 a1_0 a1_1 t391 t392 _ A132.out).mono ?_
            rintro e w140 ⟨rfl, hb⟩
            refine ⟨_, rfl, ?_⟩
            replace BK343 := kb BK343 hb
            replace BK344 := kb BK344 hb
            replace HB := hs' HB (by repeat first | (with_reducible exact HB.out) | refine bl1 ?_ | (with_reducible refine bset ?_ ‹_›) | exact HB.out) hb
            (try clear hb); (try clear hb2); (try clear hk); (try clear hi)
            refine hK.out _ _ ⟨(blk_cell BK343.out 0).trans rfl, (blk_cell BK343.out 1).trans rfl, (blk_cell BK344.out 0).trans rfl, (blk_cell BK344.out 1).trans rfl⟩ (fun hHeld => ?_)
            clear hK K
            refine norm_ (a' := ?_) ?_ ?_
            rotate_left
            ·
             show Act.put _ (some 104) _ = _
             simp only [ap]; rfl
            refine one_ (i := 5) (N := some 107) (bA 20 63) rfl rfl (one_of HT_.out (by kernel_rfl)) (by decide) (fun K hK => ?_)
            refine goes_ Try.func49 (by kernel_rfl) rfl #[.agg #[.int .i64 a0_0, .int .i64 a0_1], .agg #[.int .i64 a1_0, .int .i64 a1_1]] (by rfl) rfl rfl (by (try simp only [mp]); first | done | rfl | (simp only [ld]; rfl)) ?_
            with_reducible refine (serinetteref01_Min.calls kj80 a0_0 a0_1 a1_0 a1_1 t393 t394 _ A133.out).mono ?_
            rintro e w141 ⟨rfl, hb⟩
            refine ⟨_, rfl, ?_⟩
            replace BK343 := kb BK343 hb
            replace BK344 := kb BK344 hb
            replace HB := hs' HB (by repeat first | (with_reducible exact HB.out) | refine bl1 ?_ | (with_reducible refine bset ?_ ‹_›) | exact HB.out) hb
            (try clear hb); (try clear hb2); (try clear hk); (try clear hi)
            refine hK.out _ _ ⟨(blk_cell BK343.out 0).trans rfl, (blk_cell BK343.out 1).trans rfl, (blk_cell BK344.out 0).trans rfl, (blk_cell BK344.out 1).trans rfl⟩ (fun hHeld => ?_)
            clear hK K
            refine norm_ (a' := ?_) ?_ ?_
            rotate_left
            ·
             show Act.put _ (some 107) _ = _
             simp only [ap]; rfl
            refine pure_ (i := 6) (N := some 108) (v := ?_) (a' := ?_) (bA 20 127) rfl rfl (any_of HT_.out (by kernel_rfl)) (fun _ _ _ h => h) (Or.inl ⟨by rfl, ?_⟩) ?_ ?_
            rotate_left
            ·
             intro w'
             go_simp; with_reducible rfl
            rotate_left
            ·
             simp only [ap]
             rfl
            refine pure_ (i := 7) (N := some 109) (v := ?_) (a' := ?_) (bA 20 255) rfl rfl (any_of HT_.out (by kernel_rfl)) (fun _ _ _ h => h) (Or.inl ⟨by rfl, ?_⟩) ?_ ?_
            rotate_left
            ·
             intro w'
             go_simp; with_reducible rfl
            rotate_left
            ·
             simp only [ap]
             rfl
            refine take_ (i := 8) (N := some 110) (v := ?_) (a' := ?_) (bA 20 511) rfl rfl (take_ofW HT_.out HW_.out (by kernel_rfl)) (fun _ _ _ h => h) (Or.inl ⟨by rfl, ?_⟩) hHeld ?_ ?_
            rotate_left
            ·
             rintro w' ⟨s0, s1, s2, s3⟩
             go_simp; with_reducible rfl
            rotate_left
            ·
             simp only [ap]
             rfl
            refine take_ (i := 9) (N := some 111) (v := ?_) (a' := ?_) (bA 20 1023) rfl rfl (take_ofW HT_.out HW_.out (by kernel_rfl)) (fun _ _ _ h => h) (Or.inl ⟨by rfl, ?_⟩) hHeld ?_ ?_
            rotate_left
            ·
             rintro w' ⟨s0, s1, s2, s3⟩
             go_simp; with_reducible rfl
            rotate_left
            ·
             simp only [ap]
             rfl
            refine take_ (i := 11) (N := some 113) (v := ?_) (a' := ?_) (bA 20 3071) rfl rfl (take_ofW HT_.out HW_.out (by kernel_rfl)) (fun _ _ _ h => h) (Or.inl ⟨by rfl, ?_⟩) hHeld ?_ ?_
            rotate_left
            ·
             rintro w' ⟨s0, s1, s2, s3⟩
             go_simp; with_reducible rfl
            rotate_left
            ·
             simp only [ap]
             rfl
            refine take_ (i := 12) (N := some 114) (v := ?_) (a' := ?_) (bA 20 7167) rfl rfl (take_ofW HT_.out HW_.out (by kernel_rfl)) (fun _ _ _ h => h) (Or.inl ⟨by rfl, ?_⟩) hHeld ?_ ?_
            rotate_left
            ·
             rintro w' ⟨s0, s1, s2, s3⟩
             go_simp; with_reducible rfl
            rotate_left
            ·
             simp only [ap]
             rfl
            refine one_ (i := 10) (N := some 112) (bA 20 8191) rfl rfl (one_of HT_.out (by kernel_rfl)) (by decide) (fun K hK => ?_)
            refine goes_ Try.func50 (by kernel_rfl) rfl #[.agg #[.int .i64 a0_0, .int .i64 a0_1], .agg #[.int .i64 a1_0, .int .i64 a1_1]] (by rfl) rfl rfl (by (try simp only [mp]); first | done | rfl | (simp only [ld]; rfl)) ?_
            with_reducible refine (ratio_Max.calls kj80 a0_0 a0_1 a1_0 a1_1 t395 t396 _ A135.out).mono ?_
            rintro e w142 ⟨rfl, hb⟩
            refine ⟨_, rfl, ?_⟩
            replace BK343 := kb BK343 hb
            replace BK344 := kb BK344 hb
            replace HB := hs' HB (by repeat first | (with_reducible exact HB.out) | refine bl1 ?_ | (with_reducible refine bset ?_ ‹_›) | exact HB.out) hb
            (try clear hb); (try clear hb2); (try clear hk); (try clear hi)
            refine hK.out _ _ ⟨(blk_cell BK343.out 0).trans rfl, (blk_cell BK343.out 1).trans rfl, (blk_cell BK344.out 0).trans rfl, (blk_cell BK344.out 1).trans rfl⟩ (fun hHeld => ?_)
            clear hK K
            refine norm_ (a' := ?_) ?_ ?_
            rotate_left
            ·
             show Act.put _ (some 112) _ = _
             simp only [ap]; rfl
            refine one_ (i := 13) (N := some 115) (bA 20 16383) rfl rfl (one_of HT_.out (by kernel_rfl)) (by decide) (fun K hK => ?_)
            refine goes_ Try.func51 (by kernel_rfl) rfl #[.agg #[.int .i64 a0_0, .int .i64 a0_1], .agg #[.int .i64 a1_0, .int .i64 a1_1]] (by rfl) rfl rfl (by (try simp only [mp]); first | done | rfl | (simp only [ld]; rfl)) ?_
            with_reducible refine (serinetteref01_Max.calls kj80 a0_0 a0_1 a1_0 a1_1 t397 t398 _ A136.out).mono ?_
            rintro e w143 ⟨rfl, hb⟩
            refine ⟨_, rfl, ?_⟩
            replace BK343 := kb BK343 hb
            replace BK344 := kb BK344 hb
            replace HB := hs' HB (by repeat first | (with_reducible exact HB.out) | refine bl1 ?_ | (with_reducible refine bset ?_ ‹_›) | exact HB.out) hb
            (try clear hb); (try clear hb2); (try clear hk); (try clear hi)
            refine hK.out _ _ ⟨(blk_cell BK343.out 0).trans rfl, (blk_cell BK343.out 1).trans rfl, (blk_cell BK344.out 0).trans rfl, (blk_cell BK344.out 1).trans rfl⟩ (fun hHeld => ?_)
            clear hK K
            refine norm_ (a' := ?_) ?_ ?_
            rotate_left
            ·
             show Act.put _ (some 115) _ = _
             simp only [ap]; rfl
            refine pure_ (i := 14) (N := some 116) (v := ?_) (a' := ?_) (bA 20 32767) rfl rfl (any_of HT_.out (by kernel_rfl)) (fun _ _ _ h => h) (Or.inl ⟨by rfl, ?_⟩) ?_ ?_
            rotate_left
            ·
             intro w'
             go_simp; with_reducible rfl
            rotate_left
            ·
             simp only [ap]
             rfl
            refine pure_ (i := 15) (N := some 117) (v := ?_) (a' := ?_) (bA 20 65535) rfl rfl (any_of HT_.out (by kernel_rfl)) (fun _ _ _ h => h) (Or.inl ⟨by rfl, ?_⟩) ?_ ?_
            rotate_left
            ·
             intro w'
             go_simp; with_reducible rfl
            rotate_left
            ·
             simp only [ap]
             rfl
            refine pure_ (i := 16) (N := some 118) (v := ?_) (a' := ?_) (bA 20 131071) rfl rfl (any_of HT_.out (by kernel_rfl)) (fun _ _ _ h => h) (Or.inl ⟨by rfl, ?_⟩) ?_ ?_
            rotate_left
            ·
             intro w'
             go_simp; with_reducible rfl
            rotate_left
            ·
             simp only [ap]
             rfl
            refine one_ (i := 17) (N := some 119) (bA 20 262143) rfl rfl (one_of HT_.out (by kernel_rfl)) (by decide) (fun K hK => ?_)
            refine goes_ Try.func11 (by kernel_rfl) rfl #[] (by rfl) rfl rfl (by (try simp only [mp]); first | done | rfl | (simp only [ld]; rfl)) ?_
            with_reducible refine (serinettelaw01_awake.calls kj80  t399 _ A138.out).mono ?_
            rintro e w144 ⟨rfl, hb⟩
            refine ⟨_, rfl, ?_⟩
            replace BK343 := kb BK343 hb
            replace BK344 := kb BK344 hb
            replace HB := hs' HB (by repeat first | (with_reducible exact HB.out) | refine bl1 ?_ | (with_reducible refine bset ?_ ‹_›) | exact HB.out) hb
            (try clear hb); (try clear hb2); (try clear hk); (try clear hi)
            refine hK.out _ _ ⟨(blk_cell BK343.out 0).trans rfl, (blk_cell BK343.out 1).trans rfl, (blk_cell BK344.out 0).trans rfl, (blk_cell BK344.out 1).trans rfl⟩ (fun hHeld => ?_)
            clear hK K
            refine norm_ (a' := ?_) ?_ ?_
            rotate_left
            ·
             show Act.put _ (some 119) _ = _
             simp only [ap]; rfl
            refine pure_ (i := 18) (N := some 120) (v := ?_) (a' := ?_) (bA 20 524287) rfl rfl (any_of HT_.out (by kernel_rfl)) (fun _ _ _ h => h) (Or.inl ⟨by rfl, ?_⟩) ?_ ?_
            rotate_left
            ·
             intro w'
             go_simp; with_reducible rfl
            rotate_left
            ·
             simp only [ap]
             rfl
            refine pure_ (i := 19) (N := some 4) (v := ?_) (a' := ?_) (bA 20 1048575) rfl rfl (any_of HT_.out (by kernel_rfl)) (fun _ _ _ h => h) (Or.inl ⟨by rfl, ?_⟩) ?_ ?_
            rotate_left
            ·
             intro w'
             go_simp; with_reducible rfl
            rotate_left
            ·
             simp only [ap]
             rfl
            refine done_ (done_of HT_.out (by kernel_rfl)) ?_
            try go_wp2
            go_ret
            exact ⟨by first | rfl | (simp [errW_none, errW_some] <;> rfl) | (simp [*, errW_none, errW_some] <;> rfl), by repeat first | exact HB.out | refine bset ?_ ‹_› | apply below_alloc | apply pw_below_drewN | apply below_drew1⟩
           ·
            rw [if_neg c137] at H
            have c137b0 : (t395 == t397 && (t396 == t398)) = false := by simpa using c137
            (try (have c137b1 : decide (t395 = t397 && (t396 == t398)) = false := by simpa using c137))
            (try (have c137b2 : (t395 == t397 && (t396 == t398)) = false := by simpa using c137))
            (try (have c137b3 : ¬ (t395 = t397 && (t396 == t398)) := by simpa using c137))
            clear c137
            obtain rfl := Option.some.inj H
            try go_wp2
            replace BK343 := kd BK343
            replace BK344 := kd BK344
            replace HB := Aside0.mk (below_drew1 HB.out)
            refine start_ (n := 20) (S := fun w' => w'.cell? ⟨gb343, 0, none⟩ = some (.int .i64 a0_0) ∧ w'.cell? ⟨gb343, 1, none⟩ = some (.int .i64 a0_1) ∧ w'.cell? ⟨gb344, 0, none⟩ = some (.int .i64 a1_0) ∧ w'.cell? ⟨gb344, 1, none⟩ = some (.int .i64 a1_1)) (ds := []) (bA 20 0) (by kernel_rfl) rfl rfl ⟨(blk_cell BK343.out 0).trans rfl, (blk_cell BK343.out 1).trans rfl, (blk_cell BK344.out 0).trans rfl, (blk_cell BK344.out 1).trans rfl⟩ (fun hHeld => ?_); refine with_tabW serinettelaw01_NumberSays.tab7 serinettelaw01_NumberSays.bits7 (fun HT_ HW_ => ?_)
            generalize wc.drew = w145 at BK343 BK344 HB hHeld ⊢
            refine take_ (i := 0) (N := some 102) (v := ?_) (a' := ?_) (bA 20 1) rfl rfl (take_ofW HT_.out HW_.out (by kernel_rfl)) (fun _ _ _ h => h) (Or.inl ⟨by rfl, ?_⟩) hHeld ?_ ?_
            rotate_left
            ·
             rintro w' ⟨s0, s1, s2, s3⟩
             go_simp; with_reducible rfl
            rotate_left
            ·
             simp only [ap]
             rfl
            refine take_ (i := 1) (N := some 103) (v := ?_) (a' := ?_) (bA 20 3) rfl rfl (take_ofW HT_.out HW_.out (by kernel_rfl)) (fun _ _ _ h => h) (Or.inl ⟨by rfl, ?_⟩) hHeld ?_ ?_
            rotate_left
            ·
             rintro w' ⟨s0, s1, s2, s3⟩
             go_simp; with_reducible rfl
            rotate_left
            ·
             simp only [ap]
             rfl
            refine take_ (i := 3) (N := some 105) (v := ?_) (a' := ?_) (bA 20 11) rfl rfl (take_ofW HT_.out HW_.out (by kernel_rfl)) (fun _ _ _ h => h) (Or.inl ⟨by rfl, ?_⟩) hHeld ?_ ?_
            rotate_left
            ·
             rintro w' ⟨s0, s1, s2, s3⟩
             go_simp; with_reducible rfl
            rotate_left
            ·
             simp only [ap]
             rfl
            refine take_ (i := 4) (N := some 106) (v := ?_) (a' := ?_) (bA 20 27) rfl rfl (take_ofW HT_.out HW_.out (by kernel_rfl)) (fun _ _ _ h => h) (Or.inl ⟨by rfl, ?_⟩) hHeld ?_ ?_
            rotate_left
            ·
             rintro w' ⟨s0, s1, s2, s3⟩
             go_simp; with_reducible rfl
            rotate_left
            ·
             simp only [ap]
             rfl
            refine one_ (i := 2) (N := some 104) (bA 20 31) rfl rfl (one_of HT_.out (by kernel_rfl)) (by decide) (fun K hK => ?_)
            refine goes_ Try.func15 (by kernel_rfl) rfl #[.agg #[.int .i64 a0_0, .int .i64 a0_1], .agg #[.int .i64 a1_0, .int .i64 a1_1]] (by rfl) rfl rfl (by (try simp only [mp]); first | done | rfl | (simp only [ld]; rfl)) ?_
            with_reducible refine (ratio_Min.calls kj80 a0_0 a0_1 a1_0 a1_1 t391 t392 _ A132.out).mono ?_
            rintro e w146 ⟨rfl, hb⟩
            refine ⟨_, rfl, ?_⟩
            replace BK343 := kb BK343 hb
            replace BK344 := kb BK344 hb
            replace HB := hs' HB (by repeat first | (with_reducible exact HB.out) | refine bl1 ?_ | (with_reducible refine bset ?_ ‹_›) | exact HB.out) hb
            (try clear hb); (try clear hb2); (try clear hk); (try clear hi)
            refine hK.out _ _ ⟨(blk_cell BK343.out 0).trans rfl, (blk_cell BK343.out 1).trans rfl, (blk_cell BK344.out 0).trans rfl, (blk_cell BK344.out 1).trans rfl⟩ (fun hHeld => ?_)
            clear hK K
            refine norm_ (a' := ?_) ?_ ?_
            rotate_left
            ·
             show Act.put _ (some 104) _ = _
             simp only [ap]; rfl
            refine one_ (i := 5) (N := some 107) (bA 20 63) rfl rfl (one_of HT_.out (by kernel_rfl)) (by decide) (fun K hK => ?_)
            refine goes_ Try.func49 (by kernel_rfl) rfl #[.agg #[.int .i64 a0_0, .int .i64 a0_1], .agg #[.int .i64 a1_0, .int .i64 a1_1]] (by rfl) rfl rfl (by (try simp only [mp]); first | done | rfl | (simp only [ld]; rfl)) ?_
            with_reducible refine (serinetteref01_Min.calls kj80 a0_0 a0_1 a1_0 a1_1 t393 t394 _ A133.out).mono ?_
            rintro e w147 ⟨rfl, hb⟩
            refine ⟨_, rfl, ?_⟩
            replace BK343 := kb BK343 hb
            replace BK344 := kb BK344 hb
            replace HB := hs' HB (by repeat first | (with_reducible exact HB.out) | refine bl1 ?_ | (with_reducible refine bset ?_ ‹_›) | exact HB.out) hb
            (try clear hb); (try clear hb2); (try clear hk); (try clear hi)
            refine hK.out _ _ ⟨(blk_cell BK343.out 0).trans rfl, (blk_cell BK343.out 1).trans rfl, (blk_cell BK344.out 0).trans rfl, (blk_cell BK344.out 1).trans rfl⟩ (fun hHeld => ?_)
            clear hK K
            refine norm_ (a' := ?_) ?_ ?_
            rotate_left
            ·
             show Act.put _ (some 107) _ = _
             simp only [ap]; rfl
            refine pure_ (i := 6) (N := some 108) (v := ?_) (a' := ?_) (bA 20 127) rfl rfl (any_of HT_.out (by kernel_rfl)) (fun _ _ _ h => h) (Or.inl ⟨by rfl, ?_⟩) ?_ ?_
            rotate_left
            ·
             intro w'
             go_simp; with_reducible rfl
            rotate_left
            ·
             simp only [ap]
             rfl
            refine pure_ (i := 7) (N := some 109) (v := ?_) (a' := ?_) (bA 20 255) rfl rfl (any_of HT_.out (by kernel_rfl)) (fun _ _ _ h => h) (Or.inl ⟨by rfl, ?_⟩) ?_ ?_
            rotate_left
            ·
             intro w'
             go_simp; with_reducible rfl
            rotate_left
            ·
             simp only [ap]
             rfl
            refine take_ (i := 8) (N := some 110) (v := ?_) (a' := ?_) (bA 20 511) rfl rfl (take_ofW HT_.out HW_.out (by kernel_rfl)) (fun _ _ _ h => h) (Or.inl ⟨by rfl, ?_⟩) hHeld ?_ ?_
            rotate_left
            ·
             rintro w' ⟨s0, s1, s2, s3⟩
             go_simp; with_reducible rfl
            rotate_left
            ·
             simp only [ap]
             rfl
            refine take_ (i := 9) (N := some 111) (v := ?_) (a' := ?_) (bA 20 1023) rfl rfl (take_ofW HT_.out HW_.out (by kernel_rfl)) (fun _ _ _ h => h) (Or.inl ⟨by rfl, ?_⟩) hHeld ?_ ?_
            rotate_left
            ·
             rintro w' ⟨s0, s1, s2, s3⟩
             go_simp; with_reducible rfl
            rotate_left
            ·
             simp only [ap]
             rfl
            refine take_ (i := 11) (N := some 113) (v := ?_) (a' := ?_) (bA 20 3071) rfl rfl (take_ofW HT_.out HW_.out (by kernel_rfl)) (fun _ _ _ h => h) (Or.inl ⟨by rfl, ?_⟩) hHeld ?_ ?_
            rotate_left
            ·
             rintro w' ⟨s0, s1, s2, s3⟩
             go_simp; with_reducible rfl
            rotate_left
            ·
             simp only [ap]
             rfl
            refine take_ (i := 12) (N := some 114) (v := ?_) (a' := ?_) (bA 20 7167) rfl rfl (take_ofW HT_.out HW_.out (by kernel_rfl)) (fun _ _ _ h => h) (Or.inl ⟨by rfl, ?_⟩) hHeld ?_ ?_
            rotate_left
            ·
             rintro w' ⟨s0, s1, s2, s3⟩
             go_simp; with_reducible rfl
            rotate_left
            ·
             simp only [ap]
             rfl
            refine one_ (i := 10) (N := some 112) (bA 20 8191) rfl rfl (one_of HT_.out (by kernel_rfl)) (by decide) (fun K hK => ?_)
            refine goes_ Try.func50 (by kernel_rfl) rfl #[.agg #[.int .i64 a0_0, .int .i64 a0_1], .agg #[.int .i64 a1_0, .int .i64 a1_1]] (by rfl) rfl rfl (by (try simp only [mp]); first | done | rfl | (simp only [ld]; rfl)) ?_
            with_reducible refine (ratio_Max.calls kj80 a0_0 a0_1 a1_0 a1_1 t395 t396 _ A135.out).mono ?_
            rintro e w148 ⟨rfl, hb⟩
            refine ⟨_, rfl, ?_⟩
            replace BK343 := kb BK343 hb
            replace BK344 := kb BK344 hb
            replace HB := hs' HB (by repeat first | (with_reducible exact HB.out) | refine bl1 ?_ | (with_reducible refine bset ?_ ‹_›) | exact HB.out) hb
            (try clear hb); (try clear hb2); (try clear hk); (try clear hi)
            refine hK.out _ _ ⟨(blk_cell BK343.out 0).trans rfl, (blk_cell BK343.out 1).trans rfl, (blk_cell BK344.out 0).trans rfl, (blk_cell BK344.out 1).trans rfl⟩ (fun hHeld => ?_)
            clear hK K
            refine norm_ (a' := ?_) ?_ ?_
            rotate_left
            ·
             show Act.put _ (some 112) _ = _
             simp only [ap]; rfl
            refine one_ (i := 13) (N := some 115) (bA 20 16383) rfl rfl (one_of HT_.out (by kernel_rfl)) (by decide) (fun K hK => ?_)
            refine goes_ Try.func51 (by kernel_rfl) rfl #[.agg #[.int .i64 a0_0, .int .i64 a0_1], .agg #[.int .i64 a1_0, .int .i64 a1_1]] (by rfl) rfl rfl (by (try simp only [mp]); first | done | rfl | (simp only [ld]; rfl)) ?_
            with_reducible refine (serinetteref01_Max.calls kj80 a0_0 a0_1 a1_0 a1_1 t397 t398 _ A136.out).mono ?_
            rintro e w149 ⟨rfl, hb⟩
            refine ⟨_, rfl, ?_⟩
            replace BK343 := kb BK343 hb
            replace BK344 := kb BK344 hb
            replace HB := hs' HB (by repeat first | (with_reducible exact HB.out) | refine bl1 ?_ | (with_reducible refine bset ?_ ‹_›) | exact HB.out) hb
            (try clear hb); (try clear hb2); (try clear hk); (try clear hi)
            refine hK.out _ _ ⟨(blk_cell BK343.out 0).trans rfl, (blk_cell BK343.out 1).trans rfl, (blk_cell BK344.out 0).trans rfl, (blk_cell BK344.out 1).trans rfl⟩ (fun hHeld => ?_)
            clear hK K
            refine norm_ (a' := ?_) ?_ ?_
            rotate_left
            ·
             show Act.put _ (some 115) _ = _
             simp only [ap]; rfl
            refine pure_ (i := 14) (N := some 116) (v := ?_) (a' := ?_) (bA 20 32767) rfl rfl (any_of HT_.out (by kernel_rfl)) (fun _ _ _ h => h) (Or.inl ⟨by rfl, ?_⟩) ?_ ?_
            rotate_left
            ·
             intro w'
             go_simp; with_reducible rfl
            rotate_left
            ·
             simp only [ap]
             rfl
            refine pure_ (i := 15) (N := some 117) (v := ?_) (a' := ?_) (bA 20 65535) rfl rfl (any_of HT_.out (by kernel_rfl)) (fun _ _ _ h => h) (Or.inl ⟨by rfl, ?_⟩) ?_ ?_
            rotate_left
            ·
             intro w'
             go_simp; with_reducible rfl
            rotate_left
            ·
             simp only [ap]
             rfl
            refine pure_ (i := 16) (N := some 118) (v := ?_) (a' := ?_) (bA 20 131071) rfl rfl (any_of HT_.out (by kernel_rfl)) (fun _ _ _ h => h) (Or.inl ⟨by rfl, ?_⟩) ?_ ?_
            rotate_left
            ·
             intro w'
             go_simp; with_reducible rfl
            rotate_left
            ·
             simp only [ap]
             rfl
            refine pure_ (i := 17) (N := some 119) (v := undef) (a' := ?_) (bA 20 262143) rfl rfl (any_of HT_.out (by kernel_rfl)) (fun _ _ _ h => h) (Or.inr ⟨by rfl, rfl⟩) ?_ ?_
            rotate_left
            ·
             simp only [ap]
             rfl
            refine pure_ (i := 18) (N := some 120) (v := ?_) (a' := ?_) (bA 20 524287) rfl rfl (any_of HT_.out (by kernel_rfl)) (fun _ _ _ h => h) (Or.inl ⟨by rfl, ?_⟩) ?_ ?_
            rotate_left
            ·
             intro w'
             go_simp; with_reducible rfl
            rotate_left
            ·
             simp only [ap]
             rfl
            refine pure_ (i := 19) (N := some 4) (v := ?_) (a' := ?_) (bA 20 1048575) rfl rfl (any_of HT_.out (by kernel_rfl)) (fun _ _ _ h => h) (Or.inl ⟨by rfl, ?_⟩) ?_ ?_
            rotate_left
            ·
             intro w'
             go_simp; with_reducible rfl
            rotate_left
            ·
             simp only [ap]
             rfl
            refine done_ (done_of HT_.out (by kernel_rfl)) ?_
            try go_wp2
            go_ret
            exact ⟨by first | rfl | (simp [errW_none, errW_some] <;> rfl) | (simp [*, errW_none, errW_some] <;> rfl), by repeat first | exact HB.out | refine bset ?_ ‹_› | apply below_alloc | apply pw_below_drewN | apply below_drew1⟩
          ·
           rw [if_neg c134] at H
           have c134b0 : (t391 == t393 && (t392 == t394)) = false := by simpa using c134
           (try (have c134b1 : decide (t391 = t393 && (t392 == t394)) = false := by simpa using c134))
           (try (have c134b2 : (t391 == t393 && (t392 == t394)) = false := by simpa using c134))
           (try (have c134b3 : ¬ (t391 = t393 && (t392 == t394)) := by simpa using c134))
           clear c134
           obtain rfl := Option.some.inj H
           try go_wp2
           replace BK343 := kd BK343
           replace BK344 := kd BK344
           replace HB := Aside0.mk (below_drew1 HB.out)
           refine start_ (n := 20) (S := fun w' => w'.cell? ⟨gb343, 0, none⟩ = some (.int .i64 a0_0) ∧ w'.cell? ⟨gb343, 1, none⟩ = some (.int .i64 a0_1) ∧ w'.cell? ⟨gb344, 0, none⟩ = some (.int .i64 a1_0) ∧ w'.cell? ⟨gb344, 1, none⟩ = some (.int .i64 a1_1)) (ds := []) (bA 20 0) (by kernel_rfl) rfl rfl ⟨(blk_cell BK343.out 0).trans rfl, (blk_cell BK343.out 1).trans rfl, (blk_cell BK344.out 0).trans rfl, (blk_cell BK344.out 1).trans rfl⟩ (fun hHeld => ?_); refine with_tabW serinettelaw01_NumberSays.tab7 serinettelaw01_NumberSays.bits7 (fun HT_ HW_ => ?_)
           generalize wc.drew = w150 at BK343 BK344 HB hHeld ⊢
           refine take_ (i := 0) (N := some 102) (v := ?_) (a' := ?_) (bA 20 1) rfl rfl (take_ofW HT_.out HW_.out (by kernel_rfl)) (fun _ _ _ h => h) (Or.inl ⟨by rfl, ?_⟩) hHeld ?_ ?_
           rotate_left
           ·
            rintro w' ⟨s0, s1, s2, s3⟩
            go_simp; with_reducible rfl
           rotate_left
           ·
            simp only [ap]
            rfl
           refine take_ (i := 1) (N := some 103) (v := ?_) (a' := ?_) (bA 20 3) rfl rfl (take_ofW HT_.out HW_.out (by kernel_rfl)) (fun _ _ _ h => h) (Or.inl ⟨by rfl, ?_⟩) hHeld ?_ ?_
           rotate_left
           ·
            rintro w' ⟨s0, s1, s2, s3⟩
            go_simp; with_reducible rfl
           rotate_left
           ·
            simp only [ap]
            rfl
           refine take_ (i := 3) (N := some 105) (v := ?_) (a' := ?_) (bA 20 11) rfl rfl (take_ofW HT_.out HW_.out (by kernel_rfl)) (fun _ _ _ h => h) (Or.inl ⟨by rfl, ?_⟩) hHeld ?_ ?_
           rotate_left
           ·
            rintro w' ⟨s0, s1, s2, s3⟩
            go_simp; with_reducible rfl
           rotate_left
           ·
            simp only [ap]
            rfl
           refine take_ (i := 4) (N := some 106) (v := ?_) (a' := ?_) (bA 20 27) rfl rfl (take_ofW HT_.out HW_.out (by kernel_rfl)) (fun _ _ _ h => h) (Or.inl ⟨by rfl, ?_⟩) hHeld ?_ ?_
           rotate_left
           ·
            rintro w' ⟨s0, s1, s2, s3⟩
            go_simp; with_reducible rfl
           rotate_left
           ·
            simp only [ap]
            rfl
           refine one_ (i := 2) (N := some 104) (bA 20 31) rfl rfl (one_of HT_.out (by kernel_rfl)) (by decide) (fun K hK => ?_)
           refine goes_ Try.func15 (by kernel_rfl) rfl #[.agg #[.int .i64 a0_0, .int .i64 a0_1], .agg #[.int .i64 a1_0, .int .i64 a1_1]] (by rfl) rfl rfl (by (try simp only [mp]); first | done | rfl | (simp only [ld]; rfl)) ?_
           with_reducible refine (ratio_Min.calls kj80 a0_0 a0_1 a1_0 a1_1 t391 t392 _ A132.out).mono ?_
           rintro e w151 ⟨rfl, hb⟩
           refine ⟨_, rfl, ?_⟩
           replace BK343 := kb BK343 hb
           replace BK344 := kb BK344 hb
           replace HB := hs' HB (by repeat first | (with_reducible exact HB.out) | refine bl1 ?_ | (with_reducible refine bset ?_ ‹_›) | exact HB.out) hb
           (try clear hb); (try clear hb2); (try clear hk); (try clear hi)
           refine hK.out _ _ ⟨(blk_cell BK343.out 0).trans rfl, (blk_cell BK343.out 1).trans rfl, (blk_cell BK344.out 0).trans rfl, (blk_cell BK344.out 1).trans rfl⟩ (fun hHeld => ?_)
           clear hK K
           refine norm_ (a' := ?_) ?_ ?_
           rotate_left
           ·
            show Act.put _ (some 104) _ = _
            simp only [ap]; rfl
           refine one_ (i := 5) (N := some 107) (bA 20 63) rfl rfl (one_of HT_.out (by kernel_rfl)) (by decide) (fun K hK => ?_)
           refine goes_ Try.func49 (by kernel_rfl) rfl #[.agg #[.int .i64 a0_0, .int .i64 a0_1], .agg #[.int .i64 a1_0, .int .i64 a1_1]] (by rfl) rfl rfl (by (try simp only [mp]); first | done | rfl | (simp only [ld]; rfl)) ?_
           with_reducible refine (serinetteref01_Min.calls kj80 a0_0 a0_1 a1_0 a1_1 t393 t394 _ A133.out).mono ?_
           rintro e w152 ⟨rfl, hb⟩
           refine ⟨_, rfl, ?_⟩
           replace BK343 := kb BK343 hb
           replace BK344 := kb BK344 hb
           replace HB := hs' HB (by repeat first | (with_reducible exact HB.out) | refine bl1 ?_ | (with_reducible refine bset ?_ ‹_›) | exact HB.out) hb
           (try clear hb); (try clear hb2); (try clear hk); (try clear hi)
           refine hK.out _ _ ⟨(blk_cell BK343.out 0).trans rfl, (blk_cell BK343.out 1).trans rfl, (blk_cell BK344.out 0).trans rfl, (blk_cell BK344.out 1).trans rfl⟩ (fun hHeld => ?_)
           clear hK K
           refine norm_ (a' := ?_) ?_ ?_
           rotate_left
           ·
            show Act.put _ (some 107) _ = _
            simp only [ap]; rfl
           refine pure_ (i := 6) (N := some 108) (v := ?_) (a' := ?_) (bA 20 127) rfl rfl (any_of HT_.out (by kernel_rfl)) (fun _ _ _ h => h) (Or.inl ⟨by rfl, ?_⟩) ?_ ?_
           rotate_left
           ·
            intro w'
            go_simp; with_reducible rfl
           rotate_left
           ·
            simp only [ap]
            rfl
           refine pure_ (i := 7) (N := some 109) (v := ?_) (a' := ?_) (bA 20 255) rfl rfl (any_of HT_.out (by kernel_rfl)) (fun _ _ _ h => h) (Or.inl ⟨by rfl, ?_⟩) ?_ ?_
           rotate_left
           ·
            intro w'
            go_simp; with_reducible rfl
           rotate_left
           ·
            simp only [ap]
            rfl
           refine pure_ (i := 8) (N := some 110) (v := undef) (a' := ?_) (bA 20 511) rfl rfl (any_of HT_.out (by kernel_rfl)) (fun _ _ _ h => h) (Or.inr ⟨by rfl, rfl⟩) ?_ ?_
           rotate_left
           ·
            simp only [ap]
            rfl
           refine pure_ (i := 9) (N := some 111) (v := undef) (a' := ?_) (bA 20 1023) rfl rfl (any_of HT_.out (by kernel_rfl)) (fun _ _ _ h => h) (Or.inr ⟨by rfl, rfl⟩) ?_ ?_
           rotate_left
           ·
            simp only [ap]
            rfl
           refine pure_ (i := 10) (N := some 112) (v := undef) (a' := ?_) (bA 20 2047) rfl rfl (any_of HT_.out (by kernel_rfl)) (fun _ _ _ h => h) (Or.inr ⟨by rfl, rfl⟩) ?_ ?_
           rotate_left
           ·
            simp only [ap]
            rfl
           refine pure_ (i := 11) (N := some 113) (v := undef) (a' := ?_) (bA 20 4095) rfl rfl (any_of HT_.out (by kernel_rfl)) (fun _ _ _ h => h) (Or.inr ⟨by rfl, rfl⟩) ?_ ?_
           rotate_left
           ·
            simp only [ap]
            rfl
           refine pure_ (i := 12) (N := some 114) (v := undef) (a' := ?_) (bA 20 8191) rfl rfl (any_of HT_.out (by kernel_rfl)) (fun _ _ _ h => h) (Or.inr ⟨by rfl, rfl⟩) ?_ ?_
           rotate_left
           ·
            simp only [ap]
            rfl
           refine pure_ (i := 13) (N := some 115) (v := undef) (a' := ?_) (bA 20 16383) rfl rfl (any_of HT_.out (by kernel_rfl)) (fun _ _ _ h => h) (Or.inr ⟨by rfl, rfl⟩) ?_ ?_
           rotate_left
           ·
            simp only [ap]
            rfl
           refine pure_ (i := 14) (N := some 116) (v := undef) (a' := ?_) (bA 20 32767) rfl rfl (any_of HT_.out (by kernel_rfl)) (fun _ _ _ h => h) (Or.inr ⟨by rfl, rfl⟩) ?_ ?_
           rotate_left
           ·
            simp only [ap]
            rfl
           refine pure_ (i := 15) (N := some 117) (v := ?_) (a' := ?_) (bA 20 65535) rfl rfl (any_of HT_.out (by kernel_rfl)) (fun _ _ _ h => h) (Or.inl ⟨by rfl, ?_⟩) ?_ ?_
           rotate_left
           ·
            intro w'
            go_simp; with_reducible rfl
           rotate_left
           ·
            simp only [ap]
            rfl
           refine pure_ (i := 16) (N := some 118) (v := ?_) (a' := ?_) (bA 20 131071) rfl rfl (any_of HT_.out (by kernel_rfl)) (fun _ _ _ h => h) (Or.inl ⟨by rfl, ?_⟩) ?_ ?_
           rotate_left
           ·
            intro w'
            go_simp; with_reducible rfl
           rotate_left
           ·
            simp only [ap]
            rfl
           refine pure_ (i := 17) (N := some 119) (v := undef) (a' := ?_) (bA 20 262143) rfl rfl (any_of HT_.out (by kernel_rfl)) (fun _ _ _ h => h) (Or.inr ⟨by rfl, rfl⟩) ?_ ?_
           rotate_left
           ·
            simp only [ap]
            rfl
           refine pure_ (i := 18) (N := some 120) (v := ?_) (a' := ?_) (bA 20 524287) rfl rfl (any_of HT_.out (by kernel_rfl)) (fun _ _ _ h => h) (Or.inl ⟨by rfl, ?_⟩) ?_ ?_
           rotate_left
           ·
            intro w'
            go_simp; with_reducible rfl
           rotate_left
           ·
            simp only [ap]
            rfl
           refine pure_ (i := 19) (N := some 4) (v := ?_) (a' := ?_) (bA 20 1048575) rfl rfl (any_of HT_.out (by kernel_rfl)) (fun _ _ _ h => h) (Or.inl ⟨by rfl, ?_⟩) ?_ ?_
           rotate_left
           ·
            intro w'
            go_simp; with_reducible rfl
           rotate_left
           ·
            simp only [ap]
            rfl
           refine done_ (done_of HT_.out (by kernel_rfl)) ?_
           try go_wp2
           go_ret
           exact ⟨by first | rfl | (simp [errW_none, errW_some] <;> rfl) | (simp [*, errW_none, errW_some] <;> rfl), by repeat first | exact HB.out | refine bset ?_ ‹_› | apply below_alloc | apply pw_below_drewN | apply below_drew1⟩
end Go.Proofs.Ytgecbfemlpmpeaa.SNumberSays
