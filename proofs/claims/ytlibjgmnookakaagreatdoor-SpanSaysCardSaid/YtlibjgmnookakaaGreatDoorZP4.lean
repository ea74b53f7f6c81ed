/- Parts of the proof of SpanSays, joined by program out of this session's own texts. -/
import Derived.Test.YtlibjgmnookakaaGreatDoorZP3
set_option linter.unusedVariables false
set_option linter.unusedSimpArgs false
namespace Go.Proofs.YtlibjgmnookakaaGreatDoor.SSpanSays
open Go.RowKit Go.Proofs.YtlibjgmnookakaaGreatDoor.Wd.PrintWords Go.Proofs.YtlibjgmnookakaaGreatDoor.Wd.PrintLast Go.Proofs.YtlibjgmnookakaaGreatDoor.Wd.PrintMore
attribute [local go_sem] max2_int min2_int max_two min_two max_three min_three max_four min_four
attribute [local go_sem] max2_int min2_int max_two min_two max_three min_three max_four min_four
attribute [local go_sem] max2_int min2_int max_two min_two max_three min_three max_four min_four
attribute [local go_sem high] eqA23
attribute [local go_sem high] eqA25
set_option maxHeartbeats 8000000 in
set_option maxRecDepth 100000 in
theorem span_Make.calls (k : Nat) (a0_0 : Int) (a0_1 : Int) (a1_0 : Int) (a1_1 : Int) (a2 : Int) (r1 : Int) (r2 : Int) (r3 : Int) (r4 : Int) (r5 : Int) (r6 : Bool) (r7 : Bool) (w : World) (h : span_Make.f k a0_0 a0_1 a1_0 a1_1 a2 = some (r1, r2, r3, r4, r5, r6, r7)) :
  Calls Tryz.prog 46 #[.agg #[.int .i64 a0_0, .int .i64 a0_1], .agg #[.int .i64 a1_0, .int .i64 a1_1], .int .i64 a2] w fun e w' => e = .returned (.agg #[.int .i64 r1, .int .i64 r2, .int .i64 r3, .int .i64 r4, .int .i64 r5, .bool r6, .bool r7]) ∧ Below w.heap.size w w' := by
 have hu23 := Tryz.underlying23; have hu25 := Tryz.underlying25; have HB := Aside0.mk (Below.refl w.heap.size w); have H : ((ratio_Is.f k a0_0 a0_1).bind fun t559 => (if t559 = true then (span_Make.j0 k a2 a0_0 a0_1 a1_0 a1_1 a0_0 a0_1 0 0 a2 false false) else (none))) = some (r1, r2, r3, r4, r5, r6, r7) := h; clear h; replace H := Option.bind_eq_some_iff.mp H; obtain ⟨t559, A40, H⟩ := H; (try dsimp only at H); have A4 := Aside0.mk A40; clear A40; have HC5 := Aside0.mk H; clear H; go_enter Tryz.func46, Tryz.ntmps46; go_upto_if 11 with (first | ((with_reducible refine gate_dst (N := 3) rfl ?_); refine bx_ 3 #[.int .i64 a0_0, .int .i64 a0_1] 23 ?_; intro gb555 hg w6 BK555 hb; have GE555 := hz_ hg HB; replace HB := hs HB hb; clear hb hg) | ((with_reducible refine gate_dst (N := 4) rfl ?_); refine bx_ 4 #[.int .i64 a1_0, .int .i64 a1_1] 23 ?_; intro gb556 hg w7 BK556 hb; have GE556 := ge_ w hg; have NB555_556 := nlk hg BK555; have NB556_555 := ngk hg BK555; replace BK555 := kb BK555 hb; replace HB := hb_ w hb; clear hb hg) | ((with_reducible refine gate_dst (N := 6) rfl ?_); refine bx_ 6 #[.int .i64 0, .int .i64 0, .int .i64 0, .int .i64 0, .int .i64 0, .bool false, .bool false] 25 ?_; intro gb557 hg w8 BK557 hb; have GE557 := ge_ w hg; have NB555_557 := nlk hg BK555; have NB557_555 := ngk hg BK555; have NB556_557 := nlk hg BK556; have NB557_556 := ngk hg BK556; replace BK555 := kb BK555 hb; replace BK556 := kb BK556 hb; replace HB := hb_ w hb; clear hb hg) | ((with_reducible refine gate_dst (N := 7) rfl ?_); refine bx_ 7 #[.int .i64 0, .int .i64 0, .int .i64 0, .int .i64 0, .int .i64 0, .bool false, .bool false] 25 ?_; intro gb558 hg w9 BK558 hb; have GE558 := ge_ w hg; have NB555_558 := nlk hg BK555; have NB558_555 := ngk hg BK555; have NB556_558 := nlk hg BK556; have NB558_556 := ngk hg BK556; have NB557_558 := nlk hg BK557; have NB558_557 := ngk hg BK557; replace BK555 := kb BK555 hb; replace BK556 := kb BK556 hb; replace BK557 := kb BK557 hb; replace HB := hb_ w hb; clear hb hg; have hnb10 := NB558_555.out; have hnc10 := NB555_558.out; have hnb11 := NB558_556.out; have hnc11 := NB556_558.out; have hnb12 := NB558_557.out; have hnc12 := NB557_558.out; obtain ⟨hcz13_0, hcz13_1, hcz13_2, hcz13_3, hcz13_4, hcz13_5, hcz13_6⟩ := bc7 BK558.out; obtain ⟨hfz13_0, hfz13_1, hfz13_2, hfz13_3, hfz13_4, hfz13_5, hfz13_6⟩ := bf7 BK558.out; have hnb14 := NB555_556.out; have hnc14 := NB556_555.out; have hnb15 := NB555_557.out; have hnc15 := NB557_555.out; obtain ⟨hcz16_0, hcz16_1⟩ := bc2 BK555.out; obtain ⟨hfz16_0, hfz16_1⟩ := bf2 BK555.out) | ((with_reducible refine gate_callee (f := 24) rfl ?_); refine goesL_ (some 11) rfl rfl Tryz.func24 (by kernel_rfl) rfl #[.agg #[.int .i64 a0_0, .int .i64 a0_1]] rfl (by (try simp only [mp]); first | done | rfl | (simp only [ld]; rfl)) ?_; (with_reducible refine (ratio_Is.calls k a0_0 a0_1 t559 _ A4.out).mono ?_); rintro e w17 ⟨rfl, hb⟩; refine ⟨_, rfl, ?_⟩; replace BK555 := Aside0.mk (blk_below (g := gb555) (o := .cells #[.int .i64 a0_0, .int .i64 a0_1] 23 (0, 0)) (by (iterate 7 refine f1 NB555_558 ?_); refine bk ?_; exact BK555.out) hb); replace BK556 := Aside0.mk (blk_below (g := gb556) (o := .cells #[.int .i64 a1_0, .int .i64 a1_1] 23 (0, 0)) (by (iterate 7 refine f1 NB556_558 ?_); refine bk ?_; exact BK556.out) hb); replace BK557 := Aside0.mk (blk_below (g := gb557) (o := .cells #[.int .i64 0, .int .i64 0, .int .i64 0, .int .i64 0, .int .i64 0, .bool false, .bool false] 25 (0, 0)) (by (iterate 7 refine f1 NB557_558 ?_); refine bk ?_; exact BK557.out) hb); replace BK558 := Aside0.mk (blk_below (g := gb558) (o := .cells #[.int .i64 0, .int .i64 0, .int .i64 0, .int .i64 0, .int .i64 a2, .bool false, .bool false] 25 (0, 0)) (by exact rq BK558.out (by rfl)) hb); replace HB := hb_ w hb; )); (try simp only [Act.put, List.setIfInBounds_toArray, List.set_cons_zero, List.set_cons_succ])
 go_cut [] (fun wc => ∃ (kq : Nat) (x559000_4 : Int) (x559001_4 : Int), Aside0 (span_Make.j0 kq a2 a0_0 a0_1 a1_0 a1_1 x559000_4 x559001_4 0 0 a2 false false = some (r1, r2, r3, r4, r5, r6, r7)) ∧ Aside0 (kq ≤ k) ∧ Aside0 (wc.heap[gb555]? = some (.cells #[.int .i64 a0_0, .int .i64 a0_1] 23 (0, 0))) ∧ Aside0 (wc.heap[gb556]? = some (.cells #[.int .i64 a1_0, .int .i64 a1_1] 23 (0, 0))) ∧ Aside0 (wc.heap[gb557]? = some (.cells #[.int .i64 0, .int .i64 0, .int .i64 0, .int .i64 0, .int .i64 0, .bool false, .bool false] 25 (0, 0))) ∧ Aside0 (wc.heap[gb558]? = some (.cells #[.int .i64 x559000_4, .int .i64 x559001_4, .int .i64 0, .int .i64 0, .int .i64 a2, .bool false, .bool false] 25 (0, 0))) ∧ Aside0 (Below w.heap.size w wc))
 case first =>
  have H := HC5.out; clear HC5; by_cases c18 : t559 = true
  ·
   subst c18; rw [if_pos rfl] at H; have H' := Aside0.mk H; clear H; have hnb19 := NB555_556.out; have hnc19 := NB556_555.out; have hnb20 := NB555_557.out; have hnc20 := NB557_555.out; have hnb21 := NB555_558.out; have hnc21 := NB558_555.out; obtain ⟨hcz22_0, hcz22_1⟩ := bc2 BK555.out; obtain ⟨hfz22_0, hfz22_1⟩ := bf2 BK555.out; have hnb23 := NB558_556.out; have hnc23 := NB556_558.out; have hnb24 := NB558_557.out; have hnc24 := NB557_558.out; obtain ⟨hcz25_0, hcz25_1, hcz25_2, hcz25_3, hcz25_4, hcz25_5, hcz25_6⟩ := bc7 BK558.out; obtain ⟨hfz25_0, hfz25_1, hfz25_2, hfz25_3, hfz25_4, hfz25_5, hfz25_6⟩ := bf7 BK558.out; go_wp2; go_meet
   case rel => exact ⟨_, (a0_0), (a0_1), H', ⟨by first | omega | exact Nat.le_refl _⟩, ⟨by refine f1 NB555_558 ?_; refine f1 NB555_558 ?_; refine bk ?_; exact BK555.out⟩, ⟨by refine f1 NB556_558 ?_; refine f1 NB556_558 ?_; refine bk ?_; exact BK556.out⟩, ⟨by refine f1 NB557_558 ?_; refine f1 NB557_558 ?_; refine bk ?_; exact BK557.out⟩, ⟨by exact rq BK558.out (by rfl)⟩, ab2_⟩
  · replace c18 := Bool.eq_false_iff.mpr c18; subst c18; rw [if_neg (show ¬ (false = true) by decide)] at H; cases H
 case rest =>
  clear HC5; (try clear hcz13_0 hcz13_1 hcz13_2 hcz13_3 hcz13_4 hcz13_5 hcz13_6); (try clear hcz16_0 hcz16_1); (try clear hfz13_0 hfz13_1 hfz13_2 hfz13_3 hfz13_4 hfz13_5 hfz13_6); (try clear hfz16_0 hfz16_1); obtain ⟨kq, x559000_4, x559001_4, HA, HJ4, BK555, BK556, BK557, BK558, HB⟩ := hcut; cases kq with
  | zero => exact absurd HA.out (by simp [span_Make.j0])
  | succ kj4 =>
   have H := HA.out; clear HA; simp only [span_Make.j0] at H; replace H := Option.bind_eq_some_iff.mp H; obtain ⟨t560, A260, H⟩ := H; (try dsimp only at H); have A26 := Aside0.mk A260; clear A260; have HC27 := Aside0.mk H; clear H; have hnb28 := NB556_555.out; have hnc28 := NB555_556.out; have hnb29 := NB556_557.out; have hnc29 := NB557_556.out; have hnb30 := NB556_558.out; have hnc30 := NB558_556.out; obtain ⟨hcz31_0, hcz31_1⟩ := bc2 BK556.out; obtain ⟨hfz31_0, hfz31_1⟩ := bf2 BK556.out; go_upto_if 15 with (first | ((with_reducible refine gate_callee (f := 24) rfl ?_); refine goesL_ (some 15) rfl rfl Tryz.func24 (by kernel_rfl) rfl #[.agg #[.int .i64 a1_0, .int .i64 a1_1]] rfl (by (try simp only [mp]); first | done | rfl | (simp only [ld]; rfl)) ?_; (with_reducible refine (ratio_Is.calls kj4 a1_0 a1_1 t560 _ A26.out).mono ?_); rintro e w32 ⟨rfl, hb⟩; refine ⟨_, rfl, ?_⟩; replace BK555 := kb BK555 hb; replace BK556 := kb BK556 hb; replace BK557 := kb BK557 hb; replace BK558 := kb BK558 hb; replace HB := hb_ w hb; )); (try simp only [Act.put, List.setIfInBounds_toArray, List.set_cons_zero, List.set_cons_succ])
   go_cut [] (fun wc => ∃ (kq : Nat) (x559002_26 : Int) (x559003_26 : Int), Aside0 (span_Make.j1 kq a2 a0_0 a0_1 a1_0 a1_1 x559000_4 x559001_4 x559002_26 x559003_26 a2 false false = some (r1, r2, r3, r4, r5, r6, r7)) ∧ Aside0 (kq ≤ kj4) ∧ Aside0 (wc.heap[gb555]? = some (.cells #[.int .i64 a0_0, .int .i64 a0_1] 23 (0, 0))) ∧ Aside0 (wc.heap[gb556]? = some (.cells #[.int .i64 a1_0, .int .i64 a1_1] 23 (0, 0))) ∧ Aside0 (wc.heap[gb557]? = some (.cells #[.int .i64 0, .int .i64 0, .int .i64 0, .int .i64 0, .int .i64 0, .bool false, .bool false] 25 (0, 0))) ∧ Aside0 (wc.heap[gb558]? = some (.cells #[.int .i64 x559000_4, .int .i64 x559001_4, .int .i64 x559002_26, .int .i64 x559003_26, .int .i64 a2, .bool false, .bool false] 25 (0, 0))) ∧ Aside0 (Below w.heap.size w wc))
   case first =>
    have H := HC27.out; clear HC27; by_cases c33 : t560 = true
    ·
     subst c33; rw [if_pos rfl] at H; have H' := Aside0.mk H; clear H; have hnb34 := NB556_555.out; have hnc34 := NB555_556.out; have hnb35 := NB556_557.out; have hnc35 := NB557_556.out; have hnb36 := NB556_558.out; have hnc36 := NB558_556.out; obtain ⟨hcz37_0, hcz37_1⟩ := bc2 BK556.out; obtain ⟨hfz37_0, hfz37_1⟩ := bf2 BK556.out; have hnb38 := NB558_555.out; have hnc38 := NB555_558.out; have hnb39 := NB558_557.out; have hnc39 := NB557_558.out; obtain ⟨hcz40_0, hcz40_1, hcz40_2, hcz40_3, hcz40_4, hcz40_5, hcz40_6⟩ := bc7 BK558.out; obtain ⟨hfz40_0, hfz40_1, hfz40_2, hfz40_3, hfz40_4, hfz40_5, hfz40_6⟩ := bf7 BK558.out; go_wp2; go_meet
     case rel => exact ⟨_, (a1_0), (a1_1), H', ⟨by have := HJ4.out; first | omega | exact Nat.le_refl _⟩, ⟨by refine f1 NB555_558 ?_; refine f1 NB555_558 ?_; refine bk ?_; exact BK555.out⟩, ⟨by refine f1 NB556_558 ?_; refine f1 NB556_558 ?_; refine bk ?_; exact BK556.out⟩, ⟨by refine f1 NB557_558 ?_; refine f1 NB557_558 ?_; refine bk ?_; exact BK557.out⟩, ⟨by exact rq BK558.out (by rfl)⟩, ab2_⟩
    · replace c33 := Bool.eq_false_iff.mpr c33; subst c33; rw [if_neg (show ¬ (false = true) by decide)] at H; cases H
   case rest =>
    clear HC27; (try clear hcz31_0 hcz31_1 hfz31_0 hfz31_1); obtain ⟨kq, x559002_26, x559003_26, HA, HJ26, BK555, BK556, BK557, BK558, HB⟩ := hcut; cases kq with
    | zero => exact absurd HA.out (by simp [span_Make.j1])
    | succ kj26 =>
     have H := HA.out; clear HA; simp only [span_Make.j1] at H; have HC41 := Aside0.mk H; clear H; go_upto_region 6 with (fail)
     go_cut [23] (fun v23 wc => ∃ (kq : Nat) (x23_40 : Bool), v23 = .bool x23_40 ∧ Aside0 (span_Make.j2 kq x23_40 a0_0 a0_1 a1_0 a1_1 x559000_4 x559001_4 x559002_26 x559003_26 a2 false false = some (r1, r2, r3, r4, r5, r6, r7)) ∧ Aside0 (kq ≤ kj26) ∧ Aside0 (wc.heap[gb555]? = some (.cells #[.int .i64 a0_0, .int .i64 a0_1] 23 (0, 0))) ∧ Aside0 (wc.heap[gb556]? = some (.cells #[.int .i64 a1_0, .int .i64 a1_1] 23 (0, 0))) ∧ Aside0 (wc.heap[gb557]? = some (.cells #[.int .i64 0, .int .i64 0, .int .i64 0, .int .i64 0, .int .i64 0, .bool false, .bool false] 25 (0, 0))) ∧ Aside0 (wc.heap[gb558]? = some (.cells #[.int .i64 x559000_4, .int .i64 x559001_4, .int .i64 x559002_26, .int .i64 x559003_26, .int .i64 a2, .bool false, .bool false] 25 (0, 0))) ∧ Aside0 (Below w.heap.size w wc))
     case first =>
      have H := HC41.out; clear HC41; by_cases c42 : a2 < 0
      · rw [if_pos c42] at H; cases H
      ·
       rw [if_neg c42] at H; have c42b0 : decide (a2 < 0) = false := decide_eq_false c42; clear c42; (first | rw [c42b0] | (simp only [i64_w, i32_w]; rw [c42b0]) | skip); have H' := Aside0.mk H; clear H; go_wp2; go_meet
       case rel => exact ⟨_, (decide (a2 > 1073741824)), (by first | rfl | (simp; done) | (simp [*]; done)), H', ⟨by have := HJ4.out; have := HJ26.out; first | omega | exact Nat.le_refl _⟩, ⟨bk BK555.out⟩, ⟨bk BK556.out⟩, ⟨bk BK557.out⟩, ⟨bk BK558.out⟩, ab2_⟩
     case rest =>
      clear HC41; obtain ⟨kq, x23_40, rfl, HA, HJ40, BK555, BK556, BK557, BK558, HB⟩ := hcut; cases kq with
      | zero => exact absurd HA.out (by simp [span_Make.j2])
      | succ kj40 =>
       have H := HA.out; clear HA; simp only [span_Make.j2] at H; have HC43 := Aside0.mk H; clear H; go_upto_if 23 with (fail)
       go_cut [] (fun wc => ∃ (kq : Nat) (x559004_42 : Int), Aside0 (span_Make.j3 kq a0_0 a0_1 a1_0 a1_1 x559000_4 x559001_4 x559002_26 x559003_26 x559004_42 false false = some (r1, r2, r3, r4, r5, r6, r7)) ∧ Aside0 (kq ≤ kj40) ∧ Aside0 (wc.heap[gb555]? = some (.cells #[.int .i64 a0_0, .int .i64 a0_1] 23 (0, 0))) ∧ Aside0 (wc.heap[gb556]? = some (.cells #[.int .i64 a1_0, .int .i64 a1_1] 23 (0, 0))) ∧ Aside0 (wc.heap[gb557]? = some (.cells #[.int .i64 0, .int .i64 0, .int .i64 0, .int .i64 0, .int .i64 0, .bool false, .bool false] 25 (0, 0))) ∧ Aside0 (wc.heap[gb558]? = some (.cells #[.int .i64 x559000_4, .int .i64 x559001_4, .int .i64 x559002_26, .int .i64 x559003_26, .int .i64 x559004_42, .bool false, .bool false] 25 (0, 0))) ∧ Aside0 (Below w.heap.size w wc))
       case first =>
        have H := HC43.out; clear HC43; by_cases c44 : x23_40 = true
        · subst c44; rw [if_pos rfl] at H; cases H
        ·
         replace c44 := Bool.eq_false_iff.mpr c44; subst c44; rw [if_neg (show ¬ (false = true) by decide)] at H; have H' := Aside0.mk H; clear H; go_wp2; go_meet
         case rel => exact ⟨_, (a2), H', ⟨by have := HJ4.out; have := HJ26.out; have := HJ40.out; first | omega | exact Nat.le_refl _⟩, ⟨bk BK555.out⟩, ⟨bk BK556.out⟩, ⟨bk BK557.out⟩, ⟨bk BK558.out⟩, ab2_⟩
       case rest =>
        clear HC43; obtain ⟨kq, x559004_42, HA, HJ42, BK555, BK556, BK557, BK558, HB⟩ := hcut; cases kq with
        | zero => exact absurd HA.out (by simp [span_Make.j3])
        | succ kj42 =>
         have H := HA.out; clear HA; simp only [span_Make.j3] at H; replace H := Option.bind_eq_some_iff.mp H; obtain ⟨t561, A490, H⟩ := H; (try dsimp only at H); have A49 := Aside0.mk A490; clear A490; by_cases c50 : t561 = true
         ·
          subst c50; rw [if_pos rfl] at H; replace H := Option.bind_eq_some_iff.mp H; obtain ⟨t562, A510, H⟩ := H; (try dsimp only at H); have A51 := Aside0.mk A510; clear A510; by_cases c52 : t562 = true
          ·
           subst c52; rw [if_pos rfl] at H; replace H := Option.bind_eq_some_iff.mp H; obtain ⟨t563, A530, H⟩ := H; (try dsimp only at H); have A53 := Aside0.mk A530; clear A530; by_cases c54 : t563 > 0
           · rw [if_pos c54] at H; cases H
           · rw [if_neg c54] at H; have c54b0 : decide (0 < t563) = false := decide_eq_false c54; clear c54; simp only [Option.some.injEq, Prod.mk.injEq] at H; obtain ⟨rfl, rfl, rfl, rfl, rfl, rfl, rfl⟩ := H; have hnb71 := NB555_556.out; have hnc71 := NB556_555.out; have hnb72 := NB555_557.out; have hnc72 := NB557_555.out; have hnb73 := NB555_558.out; have hnc73 := NB558_555.out; obtain ⟨hcz74_0, hcz74_1⟩ := bc2 BK555.out; obtain ⟨hfz74_0, hfz74_1⟩ := bf2 BK555.out; go_wp2_with (first | ((with_reducible refine gate_callee (f := 24) rfl ?_); refine goesL_ (some 26) rfl rfl Tryz.func24 (by kernel_rfl) rfl #[.agg #[.int .i64 a0_0, .int .i64 a0_1]] rfl (by (try simp only [mp]); first | done | rfl | (simp only [ld]; rfl)) ?_; (with_reducible refine (ratio_Is.calls kj42 a0_0 a0_1 true _ A49.out).mono ?_); rintro e w75 ⟨rfl, hb⟩; refine ⟨_, rfl, ?_⟩; replace BK555 := kb BK555 hb; replace BK556 := kb BK556 hb; replace BK557 := kb BK557 hb; replace BK558 := kb BK558 hb; replace HB := hb_ w hb; have hnb76 := NB556_557.out; have hnc76 := NB557_556.out; have hnb77 := NB556_558.out; have hnc77 := NB558_556.out; obtain ⟨hcz78_0, hcz78_1⟩ := bc2 BK556.out; obtain ⟨hfz78_0, hfz78_1⟩ := bf2 BK556.out) | (go_at_call 24; (with_reducible refine (ratio_Is.calls kj42 a1_0 a1_1 true _ A51.out).mono ?_); rintro e w79 ⟨rfl, hb⟩; replace BK555 := kb BK555 hb; replace BK556 := kb BK556 hb; replace BK557 := kb BK557 hb; replace BK558 := kb BK558 hb; replace HB := hb_ w hb; obtain ⟨hcz80_0, hcz80_1⟩ := bc2 BK555.out; obtain ⟨hfz80_0, hfz80_1⟩ := bf2 BK555.out; obtain ⟨hcz81_0, hcz81_1⟩ := bc2 BK556.out; obtain ⟨hfz81_0, hfz81_1⟩ := bf2 BK556.out) | (go_at_call 25; (with_reducible refine (ratio_Cmp.calls kj42 a0_0 a0_1 a1_0 a1_1 t563 _ A53.out).mono ?_); rintro e w82 ⟨rfl, hb⟩; replace BK555 := kb BK555 hb; replace BK556 := kb BK556 hb; replace BK557 := kb BK557 hb; replace BK558 := kb BK558 hb; replace HB := hb_ w hb; have hnb83 := NB558_557.out; have hnc83 := NB557_558.out; obtain ⟨hcz84_0, hcz84_1, hcz84_2, hcz84_3, hcz84_4, hcz84_5, hcz84_6⟩ := bc7 BK558.out; obtain ⟨hfz84_0, hfz84_1, hfz84_2, hfz84_3, hfz84_4, hfz84_5, hfz84_6⟩ := bf7 BK558.out; obtain ⟨hcz85_0, hcz85_1, hcz85_2, hcz85_3, hcz85_4, hcz85_5, hcz85_6⟩ := bc7 BK557.out; obtain ⟨hfz85_0, hfz85_1, hfz85_2, hfz85_3, hfz85_4, hfz85_5, hfz85_6⟩ := bf7 BK557.out)); refine bodyPost_ret (results_cell_row rfl _ _ gb557 25 #[.int .i64 x559000_4, .int .i64 x559001_4, .int .i64 x559002_26, .int .i64 x559003_26, .int .i64 x559004_42, .bool false, .bool false] (0, 0) _ rfl (by exact rq BK557.out (by rfl)) Tryz.underlying25 rfl (by kernel_rfl)) rfl ?_; exact en_
          · replace c52 := Bool.eq_false_iff.mpr c52; subst c52; rw [if_neg (show ¬ (false = true) by decide)] at H; cases H
         · replace c50 := Bool.eq_false_iff.mpr c50; subst c50; rw [if_neg (show ¬ (false = true) by decide)] at H; cases H
def serinetteref01_least.f (a0 : Int) : Option (Bool) := if a0 = (wrap64 (-a0)) then (some (a0 != 0)) else (some false)
set_option maxHeartbeats 8000000 in
set_option maxRecDepth 100000 in
theorem serinetteref01_least.calls (a0 : Int) (r : Bool) (w : World) (h : serinetteref01_least.f a0 = some r) :
  Calls Tryz.prog 68 #[.int .i64 a0] w fun e w' => e = .returned (.bool r) ∧ Drawn0 w w' := by
 have H : (if a0 = (wrap64 (-a0)) then (some (a0 != 0)) else (some false)) = some r := h; clear h; by_cases c2 : a0 = (wrap64 (-a0))
 · rw [if_pos c2] at H; have c2b0 : (a0 == (wrap64 (-a0))) = true := beq_iff_eq.mpr c2; have c2b1 : (a0 != (wrap64 (-a0))) = false := bne_eq_false_iff_eq.mpr c2; clear c2; obtain rfl := Option.some.inj H; go_enter Tryz.func68, Tryz.ntmps68; go_wp2; go_ret; exact ⟨by first | rfl | (simp; done) | (simp [*]; done), by repeat (first | exact Drawn0.refl _ | apply Drawn0.step)⟩
 · rw [if_neg c2] at H; have c2b0 : (a0 == (wrap64 (-a0))) = false := beq_eq_false_iff_ne.mpr c2; have c2b1 : (a0 != (wrap64 (-a0))) = true := bne_iff_ne.mpr c2; obtain rfl := Option.some.inj H; go_enter Tryz.func68, Tryz.ntmps68; go_wp2; go_ret; exact ⟨by first | rfl | (simp; done) | (simp [*]; done), by repeat (first | exact Drawn0.refl _ | apply Drawn0.step)⟩
mutual
def serinetteref01_Make.l0 : Nat → Int → Int → Option (Int × Int)
 | 0, _, _ => none
 | k + 1, x0, x1 => (serinetteref01_least.f x0).bind fun t574 => (if t574 = true then (serinetteref01_Make.j1 k x0 x1 true) else ((serinetteref01_least.f x1).bind fun t575 => (serinetteref01_Make.j1 k x0 x1 t575)))
def serinetteref01_Make.j1 : Nat → Int → Int → Bool → Option (Int × Int)
 | 0, _, _, _ => none
 | k + 1, x0, x1, x15 => if x15 = true then (if (Int.tmod x0 2) = 0 then (if (Int.tmod x1 2) = 0 then (serinetteref01_Make.l0 k (wrap64 (Int.tdiv x0 2)) (wrap64 (Int.tdiv x1 2))) else ((serinetteref01_None.f).bind fun bt576 => (some (bt576.1, bt576.2)))) else ((serinetteref01_None.f).bind fun bt578 => (some (bt578.1, bt578.2)))) else (if x1 < 0 then (serinetteref01_Make.j2 k (wrap64 (-x0)) (wrap64 (-x1))) else (serinetteref01_Make.j2 k x0 x1))
def serinetteref01_Make.j2 : Nat → Int → Int → Option (Int × Int)
 | 0, _, _ => none
 | k + 1, x0, x1 => (serinetteref01_Divisor.f k x0 x1).bind fun t580 => (if t580 = 0 then (none) else ((serinetteref01_Is.f k (wrap64 (Int.tdiv x0 t580)) (wrap64 (Int.tdiv x1 t580))).bind fun t582 => (if t582 = true then (some (wrap64 (Int.tdiv x0 t580), wrap64 (Int.tdiv x1 t580))) else ((serinetteref01_None.f).bind fun bt583 => (some (bt583.1, bt583.2))))))
end
def serinetteref01_Make.f (k : Nat) (a0 : Int) (a1 : Int) : Option (Int × Int) := if a1 = 0 then ((serinetteref01_None.f).bind fun bt572 => (some (bt572.1, bt572.2))) else (serinetteref01_Make.l0 k a0 a1)
theorem serinetteref01_Make.mono_l : ∀ k, (∀ y0 y1, LeO (serinetteref01_Make.l0 k y0 y1) (serinetteref01_Make.l0 (k + 1) y0 y1)) ∧ (∀ y0 y1 y2, LeO (serinetteref01_Make.j1 k y0 y1 y2) (serinetteref01_Make.j1 (k + 1) y0 y1 y2)) ∧ (∀ y0 y1, LeO (serinetteref01_Make.j2 k y0 y1) (serinetteref01_Make.j2 (k + 1) y0 y1))
 | 0 => ⟨fun _ _ r h => by simp [serinetteref01_Make.l0] at h, fun _ _ _ r h => by simp [serinetteref01_Make.j1] at h, fun _ _ r h => by simp [serinetteref01_Make.j2] at h⟩
 | k + 1 => by
  obtain ⟨ih0, ih1, ih2⟩ := serinetteref01_Make.mono_l k
  refine ⟨?_, ?_, ?_⟩
  ·
   intro y0 y1
   unfold serinetteref01_Make.l0
   repeat' first
   | (with_reducible exact ih0 _ _)
   | (with_reducible exact ih1 _ _ _)
   | (with_reducible exact ih2 _ _)
   | (with_reducible exact serinetteref01_Divisor.mono _ _ _)
   | (with_reducible exact serinetteref01_Is.mono _ _ _)
   | (with_reducible exact LeO.refl _)
   | (with_reducible exact LeO.none _)
   | (with_reducible refine LeO.ite ?_ ?_)
   | (with_reducible refine LeO.bind ?_ (fun _ => ?_))
   | exact ih0 _ _
   | exact ih1 _ _ _
   | exact ih2 _ _
   | exact serinetteref01_Divisor.mono _ _ _
   | exact serinetteref01_Is.mono _ _ _
   | exact LeO.none _
   | refine LeO.ite ?_ ?_
   | refine LeO.bind ?_ (fun _ => ?_)
  ·
   intro y0 y1 y2
   unfold serinetteref01_Make.j1
   repeat' first
   | (with_reducible exact ih0 _ _)
   | (with_reducible exact ih1 _ _ _)
   | (with_reducible exact ih2 _ _)
   | (with_reducible exact serinetteref01_Divisor.mono _ _ _)
   | (with_reducible exact serinetteref01_Is.mono _ _ _)
   | (with_reducible exact LeO.refl _)
   | (with_reducible exact LeO.none _)
   | (with_reducible refine LeO.ite ?_ ?_)
   | (with_reducible refine LeO.bind ?_ (fun _ => ?_))
   | exact ih0 _ _
   | exact ih1 _ _ _
   | exact ih2 _ _
   | exact serinetteref01_Divisor.mono _ _ _
   | exact serinetteref01_Is.mono _ _ _
   | exact LeO.none _
   | refine LeO.ite ?_ ?_
   | refine LeO.bind ?_ (fun _ => ?_)
  ·
   intro y0 y1
   unfold serinetteref01_Make.j2
   repeat' first
   | (with_reducible exact ih0 _ _)
   | (with_reducible exact ih1 _ _ _)
   | (with_reducible exact ih2 _ _)
   | (with_reducible exact serinetteref01_Divisor.mono _ _ _)
   | (with_reducible exact serinetteref01_Is.mono _ _ _)
   | (with_reducible exact LeO.refl _)
   | (with_reducible exact LeO.none _)
   | (with_reducible refine LeO.ite ?_ ?_)
   | (with_reducible refine LeO.bind ?_ (fun _ => ?_))
   | exact ih0 _ _
   | exact ih1 _ _ _
   | exact ih2 _ _
   | exact serinetteref01_Divisor.mono _ _ _
   | exact serinetteref01_Is.mono _ _ _
   | exact LeO.none _
   | refine LeO.ite ?_ ?_
   | refine LeO.bind ?_ (fun _ => ?_)
theorem serinetteref01_Make.mono : ∀ a0 a1 k, LeO (serinetteref01_Make.f k a0 a1) (serinetteref01_Make.f (k + 1) a0 a1) := by
 intro a0 a1 k
 obtain ⟨ih0, ih1, ih2⟩ := serinetteref01_Make.mono_l k
 unfold serinetteref01_Make.f
 repeat' first
   | (with_reducible exact ih0 _ _)
   | (with_reducible exact ih1 _ _ _)
   | (with_reducible exact ih2 _ _)
   | (with_reducible exact serinetteref01_Divisor.mono _ _ _)
   | (with_reducible exact serinetteref01_Is.mono _ _ _)
   | (with_reducible exact LeO.refl _)
   | (with_reducible exact LeO.none _)
   | (with_reducible refine LeO.ite ?_ ?_)
   | (with_reducible refine LeO.bind ?_ (fun _ => ?_))
   | exact ih0 _ _
   | exact ih1 _ _ _
   | exact ih2 _ _
   | exact serinetteref01_Divisor.mono _ _ _
   | exact serinetteref01_Is.mono _ _ _
   | exact LeO.none _
   | refine LeO.ite ?_ ?_
   | refine LeO.bind ?_ (fun _ => ?_)
def serinetteref01_Make.T12 : Bool × List (List Nat × List Nat) := (true, [([], []), ([], []), ([0, 1], [0, 1]), ([], []), ([], []), ([3, 4], [3, 4]), ([2, 5], [2, 5]), ([], []), ([7, 6, 0, 1, 2, 3, 4, 5, 6, 7], [6, 7])])
def serinetteref01_Make.B12 : List Nat := [0, 0, 3, 0, 0, 24, 63, 0, 255]
theorem serinetteref01_Make.tab12 : rtab .any (opsOf Tryz.f58 12) = serinetteref01_Make.T12 := by kernel_rfl
theorem serinetteref01_Make.bits12 : waitsOk serinetteref01_Make.T12.2 serinetteref01_Make.B12 = true := by kernel_rfl
set_option maxHeartbeats 8000000 in
set_option maxRecDepth 100000 in
theorem serinetteref01_Make.calls (k : Nat) (a0 : Int) (a1 : Int) (r1 : Int) (r2 : Int) (w : World) (h : serinetteref01_Make.f k a0 a1 = some (r1, r2)) :
  Calls Tryz.prog 58 #[.int .i64 a0, .int .i64 a1] w fun e w' => e = .returned (.agg #[.int .i64 r1, .int .i64 r2]) ∧ Below w.heap.size w w' := by
 have hu23 := Tryz.underlying23; have HB := Aside0.mk (Below.refl w.heap.size w); have H : (if a1 = 0 then ((serinetteref01_None.f).bind fun bt572 => (some (bt572.1, bt572.2))) else (serinetteref01_Make.l0 k a0 a1)) = some (r1, r2) := h; clear h; by_cases c3 : a1 = 0
 · rw [if_pos c3] at H; have c3b0 : (a1 == 0) = true := beq_iff_eq.mpr c3; have c3b1 : (a1 != 0) = false := bne_eq_false_iff_eq.mpr c3; clear c3; replace H := Option.bind_eq_some_iff.mp H; obtain ⟨⟨t572, t573⟩, A40, H⟩ := H; (try dsimp only at H); have A4 := Aside0.mk A40; clear A40; simp only [Option.some.injEq, Prod.mk.injEq] at H; obtain ⟨rfl, rfl⟩ := H; go_enter Tryz.func58, Tryz.ntmps58; go_wp2_with (first | ((with_reducible refine gate_dst (N := 4) rfl ?_); refine bx_ 4 #[.int .i64 0, .int .i64 0] 23 ?_; intro gb571 hg w5 BK571 hb; have GE571 := hz_ hg HB; replace HB := hs HB hb; clear hb hg) | ((with_reducible refine gate_callee (f := 26) rfl ?_); refine goesL_ (some 9) rfl rfl Tryz.func26 (by kernel_rfl) rfl #[] rfl (by (try simp only [mp]); first | done | rfl | (simp only [ld]; rfl)) ?_; (with_reducible refine (serinetteref01_None.calls  t572 t573 _ A4.out).mono ?_); rintro e w6 ⟨rfl, hb⟩; refine ⟨_, rfl, ?_⟩; replace BK571 := kb BK571 hb; replace HB := hb_ w hb; obtain ⟨hcz7_0, hcz7_1⟩ := bc2 BK571.out; obtain ⟨hfz7_0, hfz7_1⟩ := bf2 BK571.out)); refine bodyPost_ret (results_cell_row rfl _ _ gb571 23 #[.int .i64 t572, .int .i64 t573] (0, 0) _ rfl (by exact rq BK571.out (by rfl)) Tryz.underlying23 rfl (by kernel_rfl)) rfl ?_; exact en_
 ·
  rw [if_neg c3] at H; have c3b0 : (a1 == 0) = false := beq_eq_false_iff_ne.mpr c3; have c3b1 : (a1 != 0) = true := bne_iff_ne.mpr c3; have H' := Aside0.mk H; clear H; go_enter Tryz.func58, Tryz.ntmps58; go_wp2_with (first | ((with_reducible refine gate_dst (N := 4) rfl ?_); refine bx_ 4 #[.int .i64 0, .int .i64 0] 23 ?_; intro gb571 hg w8 BK571 hb; have GE571 := hz_ hg HB; replace HB := hs HB hb; clear hb hg))
  go_loopg [0, 1] k (fun kq v0 v1 w' => ∃ (x0_1 : Int) (x1_1 : Int) (x572000_1 : Int) (x572001_1 : Int), v0 = .int .i64 x0_1 ∧ v1 = .int .i64 x1_1 ∧ Aside0 (serinetteref01_Make.l0 kq x0_1 x1_1 = some (r1, r2)) ∧ Aside0 (kq ≤ k) ∧ Aside0 (w'.heap[gb571]? = some (.cells #[.int .i64 x572000_1, .int .i64 x572001_1] 23 (0, 0))) ∧ Aside0 (Below w.heap.size w w'))
  case atStart => exact ⟨(a0), (a1), (0), (0), (by first | rfl | (simp; done) | (simp [*]; done)), (by first | rfl | (simp; done) | (simp [*]; done)), H', ⟨Nat.le_refl _⟩, ⟨bk BK571.out⟩, ab2_⟩
  case round =>
   clear H'; (try clear c3); (try clear c3b0); (try clear c3b1); obtain ⟨x0_1, x1_1, x572000_1, x572001_1, rfl, rfl, HA, HK1, BK571, HB⟩ := hrel; cases gk with
   | zero => exact absurd HA.out (by simp [serinetteref01_Make.l0])
   | succ k1 =>
    have H := HA.out; clear HA; simp only [serinetteref01_Make.l0] at H; have HC9 := Aside0.mk H; clear H; go_upto_region 3 with (fail)
    go_cut [15] (fun v15 wc => ∃ (kq : Nat) (x15_8 : Bool), v15 = .bool x15_8 ∧ Aside0 (serinetteref01_Make.j1 kq x0_1 x1_1 x15_8 = some (r1, r2)) ∧ Aside0 (kq ≤ k1) ∧ Aside0 (wc.heap[gb571]? = some (.cells #[.int .i64 x572000_1, .int .i64 x572001_1] 23 (0, 0))) ∧ Aside0 (Below w.heap.size w wc))
    case first =>
     have H := HC9.out; clear HC9; replace H := Option.bind_eq_some_iff.mp H; obtain ⟨t574, A100, H⟩ := H; (try dsimp only at H); have A10 := Aside0.mk A100; clear A100; by_cases c11 : t574 = true
     ·
      subst c11; rw [if_pos rfl] at H; have H' := Aside0.mk H; clear H; go_wp2_with (first | ((with_reducible refine gate_callee (f := 68) rfl ?_); refine goesL_ (some 11) rfl rfl Tryz.func68 (by kernel_rfl) rfl #[.int .i64 x0_1] rfl (by (try simp only [mp]); first | done | rfl | (simp only [ld]; rfl)) ?_; (with_reducible refine (serinetteref01_least.calls x0_1 true _ A10.out).mono ?_); rintro e w' ⟨rfl, ⟨nd, rfl⟩⟩; refine ⟨_, rfl, ?_⟩)); go_meet
      case rel => exact ⟨_, (true), (by first | rfl | (simp; done) | (simp [*]; done)), H', ⟨by have := HK1.out; first | omega | exact Nat.le_refl _⟩, ⟨bk BK571.out⟩, ab2_⟩
     ·
      replace c11 := Bool.eq_false_iff.mpr c11; subst c11; rw [if_neg (show ¬ (false = true) by decide)] at H; replace H := Option.bind_eq_some_iff.mp H; obtain ⟨t575, A120, H⟩ := H; (try dsimp only at H); have A12 := Aside0.mk A120; clear A120; have H' := Aside0.mk H; clear H; go_wp2_with (first | ((with_reducible refine gate_callee (f := 68) rfl ?_); refine goesL_ (some 11) rfl rfl Tryz.func68 (by kernel_rfl) rfl #[.int .i64 x0_1] rfl (by (try simp only [mp]); first | done | rfl | (simp only [ld]; rfl)) ?_; (with_reducible refine (serinetteref01_least.calls x0_1 false _ A10.out).mono ?_); rintro e w' ⟨rfl, ⟨nd, rfl⟩⟩; refine ⟨_, rfl, ?_⟩) | (go_at_call 68; (with_reducible refine (serinetteref01_least.calls x1_1 t575 _ A12.out).mono ?_); rintro e w' ⟨rfl, ⟨nd, rfl⟩⟩)); go_meet
      case rel => exact ⟨_, (t575), (by first | rfl | (simp; done) | (simp [*]; done)), H', ⟨by have := HK1.out; first | omega | exact Nat.le_refl _⟩, ⟨bk BK571.out⟩, ab2_⟩
    case rest =>
     clear HC9; obtain ⟨kq, x15_8, rfl, HA, HJ8, BK571, HB⟩ := hcut; cases kq with
     | zero => exact absurd HA.out (by simp [serinetteref01_Make.j1])
     | succ kj8 =>
      have H := HA.out; clear HA; simp only [serinetteref01_Make.j1] at H; by_cases c13 : x15_8 = true
      ·
       subst c13; rw [if_pos rfl] at H; by_cases c14 : (Int.tmod x0_1 2) = 0
       ·
        rw [if_pos c14] at H; have c14b0 : ((Int.tmod x0_1 2) == 0) = true := beq_iff_eq.mpr c14; have c14b1 : ((Int.tmod x0_1 2) != 0) = false := bne_eq_false_iff_eq.mpr c14; clear c14; by_cases c15 : (Int.tmod x1_1 2) = 0
        ·
         rw [if_pos c15] at H; have c15b0 : ((Int.tmod x1_1 2) == 0) = true := beq_iff_eq.mpr c15; have c15b1 : ((Int.tmod x1_1 2) != 0) = false := bne_eq_false_iff_eq.mpr c15; clear c15; have H' := Aside0.mk H; clear H; go_wp2; go_roundg kj8
         case measure => have := HK1.out; have := HJ8.out; omega
         case rel => exact ⟨(wrap64 (Int.tdiv x0_1 2)), (wrap64 (Int.tdiv x1_1 2)), (x572000_1), (x572001_1), (by first | rfl | (simp; done) | (simp [*]; done)), (by first | rfl | (simp; done) | (simp [*]; done)), H', ⟨by have := HK1.out; have := HJ8.out; omega⟩, ⟨bk BK571.out⟩, ab2_⟩
        · rw [if_neg c15] at H; have c15b0 : ((Int.tmod x1_1 2) == 0) = false := beq_eq_false_iff_ne.mpr c15; have c15b1 : ((Int.tmod x1_1 2) != 0) = true := bne_iff_ne.mpr c15; replace H := Option.bind_eq_some_iff.mp H; obtain ⟨⟨t576, t577⟩, A160, H⟩ := H; (try dsimp only at H); have A16 := Aside0.mk A160; clear A160; simp only [Option.some.injEq, Prod.mk.injEq] at H; obtain ⟨rfl, rfl⟩ := H; go_wp2_with (first | ((with_reducible refine gate_callee (f := 26) rfl ?_); refine goesL_ (some 24) rfl rfl Tryz.func26 (by kernel_rfl) rfl #[] rfl (by (try simp only [mp]); first | done | rfl | (simp only [ld]; rfl)) ?_; (with_reducible refine (serinetteref01_None.calls  t576 t577 _ A16.out).mono ?_); rintro e w17 ⟨rfl, hb⟩; refine ⟨_, rfl, ?_⟩; replace BK571 := kb BK571 hb; replace HB := hb_ w hb; obtain ⟨hcz18_0, hcz18_1⟩ := bc2 BK571.out; obtain ⟨hfz18_0, hfz18_1⟩ := bf2 BK571.out)); refine bodyPost_ret (results_cell_row rfl _ _ gb571 23 #[.int .i64 t576, .int .i64 t577] (0, 0) _ rfl (by exact rq BK571.out (by rfl)) Tryz.underlying23 rfl (by kernel_rfl)) rfl ?_; exact en_
       · rw [if_neg c14] at H; have c14b0 : ((Int.tmod x0_1 2) == 0) = false := beq_eq_false_iff_ne.mpr c14; have c14b1 : ((Int.tmod x0_1 2) != 0) = true := bne_iff_ne.mpr c14; replace H := Option.bind_eq_some_iff.mp H; obtain ⟨⟨t578, t579⟩, A190, H⟩ := H; (try dsimp only at H); have A19 := Aside0.mk A190; clear A190; simp only [Option.some.injEq, Prod.mk.injEq] at H; obtain ⟨rfl, rfl⟩ := H; go_wp2_with (first | ((with_reducible refine gate_callee (f := 26) rfl ?_); refine goesL_ (some 24) rfl rfl Tryz.func26 (by kernel_rfl) rfl #[] rfl (by (try simp only [mp]); first | done | rfl | (simp only [ld]; rfl)) ?_; (with_reducible refine (serinetteref01_None.calls  t578 t579 _ A19.out).mono ?_); rintro e w20 ⟨rfl, hb⟩; refine ⟨_, rfl, ?_⟩; replace BK571 := kb BK571 hb; replace HB := hb_ w hb; obtain ⟨hcz21_0, hcz21_1⟩ := bc2 BK571.out; obtain ⟨hfz21_0, hfz21_1⟩ := bf2 BK571.out)); refine bodyPost_ret (results_cell_row rfl _ _ gb571 23 #[.int .i64 t578, .int .i64 t579] (0, 0) _ rfl (by exact rq BK571.out (by rfl)) Tryz.underlying23 rfl (by kernel_rfl)) rfl ?_; exact en_
      ·
       replace c13 := Bool.eq_false_iff.mpr c13; subst c13; rw [if_neg (show ¬ (false = true) by decide)] at H; have HC22 := Aside0.mk H; clear H; go_upto_if 30 with (fail)
       go_cut [0, 1] (fun v0 v1 wc => ∃ (kq : Nat) (x0_21 : Int) (x1_21 : Int), v0 = .int .i64 x0_21 ∧ v1 = .int .i64 x1_21 ∧ Aside0 (serinetteref01_Make.j2 kq x0_21 x1_21 = some (r1, r2)) ∧ Aside0 (kq ≤ kj8) ∧ Aside0 (wc.heap[gb571]? = some (.cells #[.int .i64 x572000_1, .int .i64 x572001_1] 23 (0, 0))) ∧ Aside0 (Below w.heap.size w wc))
       case first =>
        have H := HC22.out; clear HC22; by_cases c23 : x1_1 < 0
        ·
         rw [if_pos c23] at H; have c23b0 : decide (x1_1 < 0) = true := decide_eq_true c23; clear c23; (first | rw [c23b0] | (simp only [i64_w, i32_w]; rw [c23b0]) | skip); have H' := Aside0.mk H; clear H; go_wp2; go_meet
         case rel => exact ⟨_, (wrap64 (-x0_1)), (wrap64 (-x1_1)), (by first | rfl | (simp; done) | (simp [*]; done)), (by first | rfl | (simp; done) | (simp [*]; done)), H', ⟨by have := HK1.out; have := HJ8.out; first | omega | exact Nat.le_refl _⟩, ⟨bk BK571.out⟩, ab2_⟩
        ·
         rw [if_neg c23] at H; have c23b0 : decide (x1_1 < 0) = false := decide_eq_false c23; clear c23; (first | rw [c23b0] | (simp only [i64_w, i32_w]; rw [c23b0]) | skip); have H' := Aside0.mk H; clear H; go_wp2; go_meet
         case rel => exact ⟨_, (x0_1), (x1_1), (by first | rfl | (simp; done) | (simp [*]; done)), (by first | rfl | (simp; done) | (simp [*]; done)), H', ⟨by have := HK1.out; have := HJ8.out; first | omega | exact Nat.le_refl _⟩, ⟨bk BK571.out⟩, ab2_⟩
       case rest =>
        clear HC22; (try clear c13); obtain ⟨kq, x0_21, x1_21, rfl, rfl, HA, HJ21, BK571, HB⟩ := hcut; cases kq with
        | zero => exact absurd HA.out (by simp [serinetteref01_Make.j2])
        | succ kj21 =>
         have H := HA.out; clear HA; simp only [serinetteref01_Make.j2] at H; replace H := Option.bind_eq_some_iff.mp H; obtain ⟨t580, A240, H⟩ := H; (try dsimp only at H); have A24 := Aside0.mk A240; clear A240; by_cases c25 : t580 = 0
         · rw [if_pos c25] at H; exact absurd H (by simp)
         ·
          rw [if_neg c25] at H; have c25b0 : (t580 == 0) = false := beq_eq_false_iff_ne.mpr c25; have c25b1 : (t580 != 0) = true := bne_iff_ne.mpr c25; replace H := Option.bind_eq_some_iff.mp H; obtain ⟨t582, A260, H⟩ := H; (try dsimp only at H); have A26 := Aside0.mk A260; clear A260; by_cases c27 : t582 = true
          ·
           subst c27; rw [if_pos rfl] at H; simp only [Option.some.injEq, Prod.mk.injEq] at H; obtain ⟨rfl, rfl⟩ := H; (try go_wp2_with (first | ((with_reducible refine gate_callee (f := 44) rfl ?_); refine goesL_ (some 37) rfl rfl Tryz.func44 (by kernel_rfl) rfl #[.int .i64 x0_21, .int .i64 x1_21] rfl (by (try simp only [mp]); first | done | rfl | (simp only [ld]; rfl)) ?_; (with_reducible refine (serinetteref01_Divisor.calls kj21 x0_21 x1_21 t580 _ A24.out).mono ?_); rintro e w' ⟨rfl, ⟨nd, rfl⟩⟩; refine ⟨_, rfl, ?_⟩; (try (rw [drewN_self wc]; generalize hq_ : World.drewN wc _ = wc; have n0_ : Aside0 (wc.heap[gb571]? = some (.cells #[.int .i64 x572000_1, .int .i64 x572001_1] 23 (0, 0))) := ⟨by rw [← hq_]; exact (bk BK571.out)⟩; have n1_ : Aside0 (Below w.heap.size w wc) := ⟨by rw [← hq_]; exact (by repeat first | (with_reducible exact HB.out) | refine bl1 ?_ | (with_reducible refine bset ?_ ‹_›) | exact HB.out)⟩; clear BK571 HB hq_; have BK571 := n0_; have HB := n1_; clear n0_ n1_))))); replace BK571 := kd BK571; replace HB := Aside0.mk (below_drew1 HB.out); refine start_ (n := 9) (S := fun w' => True) (ds := []) (bA 9 0) (by kernel_rfl) rfl rfl trivial (fun hHeld => ?_); refine with_tabW serinetteref01_Make.tab12 serinetteref01_Make.bits12 (fun HT_ HW_ => ?_); generalize wc.drew = w28 at BK571 HB hHeld ⊢; have HBW := hbw w28; refine pure_ (i := 0) (N := some 38) (v := ?_) (a' := ?_) (bA 9 1) rfl rfl (any_of HT_.out (by kernel_rfl)) (fun _ _ _ h => h) (Or.inl ⟨by rfl, ?_⟩) ?_ ?_; rotate_left
           · intro w'; go_simp; with_reducible rfl
           rotate_left
           · simp only [ap]; rfl
           refine pure_ (i := 1) (N := some 39) (v := ?_) (a' := ?_) (bA 9 3) rfl rfl (any_of HT_.out (by kernel_rfl)) (fun _ _ _ h => h) (Or.inl ⟨by rfl, ?_⟩) ?_ ?_; rotate_left
           · intro w'; go_simp; with_reducible rfl
           rotate_left
           · simp only [ap]; rfl
           refine pure_ (i := 2) (N := some 40) (v := ?_) (a' := ?_) (bA 9 7) rfl rfl (any_of HT_.out (by kernel_rfl)) (fun _ _ _ h => h) (Or.inl ⟨by rfl, ?_⟩) ?_ ?_; rotate_left
           · intro w'; go_simp; with_reducible rfl
           rotate_left
           · simp only [ap]; rfl
           refine pure_ (i := 3) (N := some 41) (v := ?_) (a' := ?_) (bA 9 15) rfl rfl (any_of HT_.out (by kernel_rfl)) (fun _ _ _ h => h) (Or.inl ⟨by rfl, ?_⟩) ?_ ?_; rotate_left
           · intro w'; go_simp; with_reducible rfl
           rotate_left
           · simp only [ap]; rfl
           refine pure_ (i := 4) (N := some 42) (v := ?_) (a' := ?_) (bA 9 31) rfl rfl (any_of HT_.out (by kernel_rfl)) (fun _ _ _ h => h) (Or.inl ⟨by rfl, ?_⟩) ?_ ?_; rotate_left
           · intro w'; go_simp; with_reducible rfl
           rotate_left
           · simp only [ap]; rfl
           refine pure_ (i := 5) (N := some 43) (v := ?_) (a' := ?_) (bA 9 63) rfl rfl (any_of HT_.out (by kernel_rfl)) (fun _ _ _ h => h) (Or.inl ⟨by rfl, ?_⟩) ?_ ?_; rotate_left
           · intro w'; go_simp; with_reducible rfl
           rotate_left
           · simp only [ap]; rfl
           refine pure_ (i := 6) (N := some 44) (v := ?_) (a' := ?_) (bA 9 127) rfl rfl (any_of HT_.out (by kernel_rfl)) (fun _ _ _ h => h) (Or.inl ⟨by rfl, ?_⟩) ?_ ?_; rotate_left
           · intro w'; go_simp; with_reducible rfl
           rotate_left
           · simp only [ap]; rfl
           refine one_ (i := 7) (N := some 6) (bA 9 255) rfl rfl (one_of HT_.out (by kernel_rfl)) (by decide) (fun K hK => ?_); refine box_step ?hg (N := 6) ?hd (cs := #[.int .i64 0, .int .i64 0]) (t := 23) ?hr ?_; (case hd => rfl); (case hg => rfl); (case hr => first | (go_simp; done) | (go_simp; rfl)); intro gb581 hg w29 hbox hb; have BK581 := Aside0.mk hbox; have GX581 := hz_ hg HBW; replace HBW := hs HBW hb; clear hb hbox hg; refine hK.out _ _ trivial (fun hHeld => ?_); clear hK K; refine norm_ (a' := ?_) ?_ ?_; rotate_left
           · (show Act.put _ (some 6) _ = _); simp only [ap]; rfl
           have GW581 := gx HB GX581; have GE581 := gx HB GX581; have NB571_581 := nlx GX581 BK571; have NB581_571 := ngx GX581 BK571; replace BK571 := kb BK571 HBW.out; replace HB := hs HB HBW.out; refine one_ (i := 8) (N := none) (bA 9 511) rfl rfl (one_of HT_.out (by kernel_rfl)) (by decide) (fun K hK => ?_); have hs30 : w29.cell? ⟨gb581, 0, none⟩ = some (.int .i64 0) := (blk_cell BK581.out 0).trans rfl; have hfs30 := blk_frozen BK581.out 0; have hns30_0 := NB571_581.out; have hms30_0 := NB581_571.out; have hs31 : w29.cell? ⟨gb581, 1, none⟩ = some (.int .i64 0) := (blk_cell BK581.out 1).trans rfl; have hfs31 := blk_frozen BK581.out 1; have hns31_0 := NB571_581.out; have hms31_0 := NB581_571.out; refine skip_ (w1 := ?_) (by rfl) rfl ?_ ?_; rotate_left
           · go_simp; rfl
           refine hK.out _ _ trivial (fun hHeld => ?_); clear hK K; refine done_ (done_of HT_.out (by kernel_rfl)) ?_; clear HBW GX581; have hnb32 := NB581_571.out; have hnc32 := NB571_581.out; obtain ⟨hcz33_0, hcz33_1⟩ := bc2 BK581.out; obtain ⟨hfz33_0, hfz33_1⟩ := bf2 BK581.out; (try go_wp2_with (first | ((with_reducible refine gate_callee (f := 28) rfl ?_); refine goesL_ (some 46) rfl rfl Tryz.func28 (by kernel_rfl) rfl #[.agg #[.int .i64 (wrap64 (Int.tdiv x0_21 t580)), .int .i64 (wrap64 (Int.tdiv x1_21 t580))]] rfl (by (try simp only [mp]); first | done | rfl | (simp only [ld]; rfl)) ?_; (with_reducible refine (serinetteref01_Is.calls kj21 (wrap64 (Int.tdiv x0_21 t580)) (wrap64 (Int.tdiv x1_21 t580)) true _ A26.out).mono ?_); rintro e w34 ⟨rfl, hb⟩; refine ⟨_, rfl, ?_⟩; replace BK571 := Aside0.mk (blk_below (g := gb571) (o := .cells #[.int .i64 x572000_1, .int .i64 x572001_1] 23 (0, 0)) (by refine f1 NB571_581 ?_; refine f1 NB571_581 ?_; refine bk ?_; exact BK571.out) hb); replace BK581 := Aside0.mk (blk_below (g := gb581) (o := .cells #[.int .i64 (wrap64 (Int.tdiv x0_21 t580)), .int .i64 (wrap64 (Int.tdiv x1_21 t580))] 23 (0, 0)) (by exact rq BK581.out (by rfl)) hb); replace HB := hb_ w hb; obtain ⟨hcz35_0, hcz35_1⟩ := bc2 BK581.out; obtain ⟨hfz35_0, hfz35_1⟩ := bf2 BK581.out; obtain ⟨hcz36_0, hcz36_1⟩ := bc2 BK571.out; obtain ⟨hfz36_0, hfz36_1⟩ := bf2 BK571.out))); refine bodyPost_ret (results_cell_row rfl _ _ gb571 23 #[.int .i64 (wrap64 (Int.tdiv x0_21 t580)), .int .i64 (wrap64 (Int.tdiv x1_21 t580))] (0, 0) _ rfl (by exact rq BK571.out (by rfl)) Tryz.underlying23 rfl (by kernel_rfl)) rfl ?_; exact en_
          ·
           replace c27 := Bool.eq_false_iff.mpr c27; subst c27; rw [if_neg (show ¬ (false = true) by decide)] at H; replace H := Option.bind_eq_some_iff.mp H; obtain ⟨⟨t583, t584⟩, A370, H⟩ := H; (try dsimp only at H); have A37 := Aside0.mk A370; clear A370; simp only [Option.some.injEq, Prod.mk.injEq] at H; obtain ⟨rfl, rfl⟩ := H; (try go_wp2_with (first | ((with_reducible refine gate_callee (f := 44) rfl ?_); refine goesL_ (some 37) rfl rfl Tryz.func44 (by kernel_rfl) rfl #[.int .i64 x0_21, .int .i64 x1_21] rfl (by (try simp only [mp]); first | done | rfl | (simp only [ld]; rfl)) ?_; (with_reducible refine (serinetteref01_Divisor.calls kj21 x0_21 x1_21 t580 _ A24.out).mono ?_); rintro e w' ⟨rfl, ⟨nd, rfl⟩⟩; refine ⟨_, rfl, ?_⟩; (try (rw [drewN_self wc]; generalize hq_ : World.drewN wc _ = wc; have n0_ : Aside0 (wc.heap[gb571]? = some (.cells #[.int .i64 x572000_1, .int .i64 x572001_1] 23 (0, 0))) := ⟨by rw [← hq_]; exact (bk BK571.out)⟩; have n1_ : Aside0 (Below w.heap.size w wc) := ⟨by rw [← hq_]; exact (by repeat first | (with_reducible exact HB.out) | refine bl1 ?_ | (with_reducible refine bset ?_ ‹_›) | exact HB.out)⟩; clear BK571 HB hq_; have BK571 := n0_; have HB := n1_; clear n0_ n1_))))); replace BK571 := kd BK571; replace HB := Aside0.mk (below_drew1 HB.out); refine start_ (n := 9) (S := fun w' => True) (ds := []) (bA 9 0) (by kernel_rfl) rfl rfl trivial (fun hHeld => ?_); refine with_tabW serinetteref01_Make.tab12 serinetteref01_Make.bits12 (fun HT_ HW_ => ?_); generalize wc.drew = w38 at BK571 HB hHeld ⊢; have HBW := hbw w38; refine pure_ (i := 0) (N := some 38) (v := ?_) (a' := ?_) (bA 9 1) rfl rfl (any_of HT_.out (by kernel_rfl)) (fun _ _ _ h => h) (Or.inl ⟨by rfl, ?_⟩) ?_ ?_; rotate_left
           · intro w'; go_simp; with_reducible rfl
           rotate_left
           · simp only [ap]; rfl
           refine pure_ (i := 1) (N := some 39) (v := ?_) (a' := ?_) (bA 9 3) rfl rfl (any_of HT_.out (by kernel_rfl)) (fun _ _ _ h => h) (Or.inl ⟨by rfl, ?_⟩) ?_ ?_; rotate_left
           · intro w'; go_simp; with_reducible rfl
           rotate_left
           · simp only [ap]; rfl
           refine pure_ (i := 2) (N := some 40) (v := ?_) (a' := ?_) (bA 9 7) rfl rfl (any_of HT_.out (by kernel_rfl)) (fun _ _ _ h => h) (Or.inl ⟨by rfl, ?_⟩) ?_ ?_; rotate_left
           · intro w'; go_simp; with_reducible rfl
           rotate_left
           · simp only [ap]; rfl
           refine pure_ (i := 3) (N := some 41) (v := ?_) (a' := ?_) (bA 9 15) rfl rfl (any_of HT_.out (by kernel_rfl)) (fun _ _ _ h => h) (Or.inl ⟨by rfl, ?_⟩) ?_ ?_; rotate_left
           · intro w'; go_simp; with_reducible rfl
           rotate_left
           · simp only [ap]; rfl
           refine pure_ (i := 4) (N := some 42) (v := ?_) (a' := ?_) (bA 9 31) rfl rfl (any_of HT_.out (by kernel_rfl)) (fun _ _ _ h => h) (Or.inl ⟨by rfl, ?_⟩) ?_ ?_; rotate_left
           · intro w'; go_simp; with_reducible rfl
           rotate_left
           · simp only [ap]; rfl
           refine pure_ (i := 5) (N := some 43) (v := ?_) (a' := ?_) (bA 9 63) rfl rfl (any_of HT_.out (by kernel_rfl)) (fun _ _ _ h => h) (Or.inl ⟨by rfl, ?_⟩) ?_ ?_; rotate_left
           · intro w'; go_simp; with_reducible rfl
           rotate_left
           · simp only [ap]; rfl
           refine pure_ (i := 6) (N := some 44) (v := ?_) (a' := ?_) (bA 9 127) rfl rfl (any_of HT_.out (by kernel_rfl)) (fun _ _ _ h => h) (Or.inl ⟨by rfl, ?_⟩) ?_ ?_; rotate_left
           · intro w'; go_simp; with_reducible rfl
           rotate_left
           · simp only [ap]; rfl
           refine one_ (i := 7) (N := some 6) (bA 9 255) rfl rfl (one_of HT_.out (by kernel_rfl)) (by decide) (fun K hK => ?_); refine box_step ?hg (N := 6) ?hd (cs := #[.int .i64 0, .int .i64 0]) (t := 23) ?hr ?_; (case hd => rfl); (case hg => rfl); (case hr => first | (go_simp; done) | (go_simp; rfl)); intro gb581 hg w39 hbox hb; have BK581 := Aside0.mk hbox; have GX581 := hz_ hg HBW; replace HBW := hs HBW hb; clear hb hbox hg; refine hK.out _ _ trivial (fun hHeld => ?_); clear hK K; refine norm_ (a' := ?_) ?_ ?_; rotate_left
           · (show Act.put _ (some 6) _ = _); simp only [ap]; rfl
           have GW581 := gx HB GX581; have GE581 := gx HB GX581; have NB571_581 := nlx GX581 BK571; have NB581_571 := ngx GX581 BK571; replace BK571 := kb BK571 HBW.out; replace HB := hs HB HBW.out; refine one_ (i := 8) (N := none) (bA 9 511) rfl rfl (one_of HT_.out (by kernel_rfl)) (by decide) (fun K hK => ?_); have hs40 : w39.cell? ⟨gb581, 0, none⟩ = some (.int .i64 0) := (blk_cell BK581.out 0).trans rfl; have hfs40 := blk_frozen BK581.out 0; have hns40_0 := NB571_581.out; have hms40_0 := NB581_571.out; have hs41 : w39.cell? ⟨gb581, 1, none⟩ = some (.int .i64 0) := (blk_cell BK581.out 1).trans rfl; have hfs41 := blk_frozen BK581.out 1; have hns41_0 := NB571_581.out; have hms41_0 := NB581_571.out; refine skip_ (w1 := ?_) (by rfl) rfl ?_ ?_; rotate_left
           · go_simp; rfl
           refine hK.out _ _ trivial (fun hHeld => ?_); clear hK K; refine done_ (done_of HT_.out (by kernel_rfl)) ?_; clear HBW GX581; have hnb42 := NB581_571.out; have hnc42 := NB571_581.out; obtain ⟨hcz43_0, hcz43_1⟩ := bc2 BK581.out; obtain ⟨hfz43_0, hfz43_1⟩ := bf2 BK581.out; (try go_wp2_with (first | ((with_reducible refine gate_callee (f := 28) rfl ?_); refine goesL_ (some 46) rfl rfl Tryz.func28 (by kernel_rfl) rfl #[.agg #[.int .i64 (wrap64 (Int.tdiv x0_21 t580)), .int .i64 (wrap64 (Int.tdiv x1_21 t580))]] rfl (by (try simp only [mp]); first | done | rfl | (simp only [ld]; rfl)) ?_; (with_reducible refine (serinetteref01_Is.calls kj21 (wrap64 (Int.tdiv x0_21 t580)) (wrap64 (Int.tdiv x1_21 t580)) false _ A26.out).mono ?_); rintro e w44 ⟨rfl, hb⟩; refine ⟨_, rfl, ?_⟩; replace BK571 := Aside0.mk (blk_below (g := gb571) (o := .cells #[.int .i64 x572000_1, .int .i64 x572001_1] 23 (0, 0)) (by refine f1 NB571_581 ?_; refine f1 NB571_581 ?_; refine bk ?_; exact BK571.out) hb); replace BK581 := Aside0.mk (blk_below (g := gb581) (o := .cells #[.int .i64 (wrap64 (Int.tdiv x0_21 t580)), .int .i64 (wrap64 (Int.tdiv x1_21 t580))] 23 (0, 0)) (by exact rq BK581.out (by rfl)) hb); replace HB := hb_ w hb; ) | ((with_reducible refine gate_callee (f := 26) rfl ?_); refine goesL_ (some 48) rfl rfl Tryz.func26 (by kernel_rfl) rfl #[] rfl (by (try simp only [mp]); first | done | rfl | (simp only [ld]; rfl)) ?_; (with_reducible refine (serinetteref01_None.calls  t583 t584 _ A37.out).mono ?_); rintro e w45 ⟨rfl, hb⟩; refine ⟨_, rfl, ?_⟩; replace BK571 := kb BK571 hb; replace BK581 := kb BK581 hb; replace HB := hb_ w hb; obtain ⟨hcz46_0, hcz46_1⟩ := bc2 BK571.out; obtain ⟨hfz46_0, hfz46_1⟩ := bf2 BK571.out))); refine bodyPost_ret (results_cell_row rfl _ _ gb571 23 #[.int .i64 t583, .int .i64 t584] (0, 0) _ rfl (by exact rq BK571.out (by rfl)) Tryz.underlying23 rfl (by kernel_rfl)) rfl ?_; exact en_
def serinetteref01_Whole.f (k : Nat) (a0 : Int) : Option (Int × Int) := (serinetteref01_Make.f k a0 1).bind fun bt586 => (some (bt586.1, bt586.2))
theorem serinetteref01_Whole.mono : ∀ a0 k, LeO (serinetteref01_Whole.f k a0) (serinetteref01_Whole.f (k + 1) a0) := by
 intro a0 k
 unfold serinetteref01_Whole.f
 repeat' first
   | (with_reducible exact serinetteref01_Make.mono _ _ _)
   | (with_reducible exact LeO.refl _)
   | (with_reducible exact LeO.none _)
   | (with_reducible refine LeO.ite ?_ ?_)
   | (with_reducible refine LeO.bind ?_ (fun _ => ?_))
   | exact serinetteref01_Make.mono _ _ _
   | exact LeO.none _
   | refine LeO.ite ?_ ?_
   | refine LeO.bind ?_ (fun _ => ?_)
set_option maxHeartbeats 8000000 in
set_option maxRecDepth 100000 in
theorem serinetteref01_Whole.calls (k : Nat) (a0 : Int) (r1 : Int) (r2 : Int) (w : World) (h : serinetteref01_Whole.f k a0 = some (r1, r2)) :
  Calls Tryz.prog 47 #[.int .i64 a0] w fun e w' => e = .returned (.agg #[.int .i64 r1, .int .i64 r2]) ∧ Below w.heap.size w w' := by
 have hu23 := Tryz.underlying23; have HB := Aside0.mk (Below.refl w.heap.size w); have H : ((serinetteref01_Make.f k a0 1).bind fun bt586 => (some (bt586.1, bt586.2))) = some (r1, r2) := h; clear h; replace H := Option.bind_eq_some_iff.mp H; obtain ⟨⟨t586, t587⟩, A20, H⟩ := H; (try dsimp only at H); have A2 := Aside0.mk A20; clear A20; simp only [Option.some.injEq, Prod.mk.injEq] at H; obtain ⟨rfl, rfl⟩ := H; go_enter Tryz.func47, Tryz.ntmps47; go_wp2_with (first | ((with_reducible refine gate_dst (N := 2) rfl ?_); refine bx_ 2 #[.int .i64 0, .int .i64 0] 23 ?_; intro gb585 hg w3 BK585 hb; have GE585 := hz_ hg HB; replace HB := hs HB hb; clear hb hg) | ((with_reducible refine gate_callee (f := 58) rfl ?_); refine goesL_ (some 4) rfl rfl Tryz.func58 (by kernel_rfl) rfl #[.int .i64 a0, .int .i64 1] rfl (by (try simp only [mp]); first | done | rfl | (simp only [ld]; rfl)) ?_; (with_reducible refine (serinetteref01_Make.calls k a0 1 t586 t587 _ A2.out).mono ?_); rintro e w4 ⟨rfl, hb⟩; refine ⟨_, rfl, ?_⟩; replace BK585 := kb BK585 hb; replace HB := hb_ w hb; obtain ⟨hcz5_0, hcz5_1⟩ := bc2 BK585.out; obtain ⟨hfz5_0, hfz5_1⟩ := bf2 BK585.out)); refine bodyPost_ret (results_cell_row rfl _ _ gb585 23 #[.int .i64 t586, .int .i64 t587] (0, 0) _ rfl (by exact rq BK585.out (by rfl)) Tryz.underlying23 rfl (by kernel_rfl)) rfl ?_; exact en_
mutual
def span_arity.j0 : Nat → ByteArray → Bool → Option (Int)
 | 0, _, _ => none
 | k + 1, x3, x4 => if x4 = true then (none) else (if x3.toList = ([97, 100, 100] : List UInt8) then (span_arity.j1 k x3 (x3.toList == ([97, 100, 100] : List UInt8))) else (none))
def span_arity.j1 : Nat → ByteArray → Bool → Option (Int)
 | 0, _, _ => none
 | k + 1, x3, x11 => if x11 = true then (some 2) else (none)
end
def span_arity.f (k : Nat) (a0 : ByteArray) : Option (Int) := if a0.toList = ([110, 101, 103] : List UInt8) then (none) else (if a0.toList = ([97, 98, 115] : List UInt8) then (none) else (if a0.toList = ([102, 108, 111, 111, 114] : List UInt8) then (none) else (if a0.toList = ([114, 111, 117, 110, 100] : List UInt8) then (none) else (if a0.toList = ([102, 114, 97, 99] : List UInt8) then (none) else (span_arity.j0 k a0 (a0.toList == ([110, 111, 116] : List UInt8)))))))
theorem span_arity.mono_l : ∀ k, (∀ y0 y1, LeO (span_arity.j0 k y0 y1) (span_arity.j0 (k + 1) y0 y1)) ∧ (∀ y0 y1, LeO (span_arity.j1 k y0 y1) (span_arity.j1 (k + 1) y0 y1))
 | 0 => ⟨fun _ _ r h => by simp [span_arity.j0] at h, fun _ _ r h => by simp [span_arity.j1] at h⟩
 | k + 1 => by
  obtain ⟨ih0, ih1⟩ := span_arity.mono_l k
  refine ⟨?_, ?_⟩
  ·
   intro y0 y1
   unfold span_arity.j0
   repeat' first
   | (with_reducible exact ih0 _ _)
   | (with_reducible exact ih1 _ _)
   | (with_reducible exact LeO.refl _)
   | (with_reducible exact LeO.none _)
   | (with_reducible refine LeO.ite ?_ ?_)
   | (with_reducible refine LeO.bind ?_ (fun _ => ?_))
   | exact ih0 _ _
   | exact ih1 _ _
   | exact LeO.none _
   | refine LeO.ite ?_ ?_
   | refine LeO.bind ?_ (fun _ => ?_)
  ·
   intro y0 y1
   unfold span_arity.j1
   repeat' first
   | (with_reducible exact ih0 _ _)
   | (with_reducible exact ih1 _ _)
   | (with_reducible exact LeO.refl _)
   | (with_reducible exact LeO.none _)
   | (with_reducible refine LeO.ite ?_ ?_)
   | (with_reducible refine LeO.bind ?_ (fun _ => ?_))
   | exact ih0 _ _
   | exact ih1 _ _
   | exact LeO.none _
   | refine LeO.ite ?_ ?_
   | refine LeO.bind ?_ (fun _ => ?_)
theorem span_arity.mono : ∀ a0 k, LeO (span_arity.f k a0) (span_arity.f (k + 1) a0) := by
 intro a0 k
 obtain ⟨ih0, ih1⟩ := span_arity.mono_l k
 unfold span_arity.f
 repeat' first
   | (with_reducible exact ih0 _ _)
   | (with_reducible exact ih1 _ _)
   | (with_reducible exact LeO.refl _)
   | (with_reducible exact LeO.none _)
   | (with_reducible refine LeO.ite ?_ ?_)
   | (with_reducible refine LeO.bind ?_ (fun _ => ?_))
   | exact ih0 _ _
   | exact ih1 _ _
   | exact LeO.none _
   | refine LeO.ite ?_ ?_
   | refine LeO.bind ?_ (fun _ => ?_)
set_option maxHeartbeats 8000000 in
set_option maxRecDepth 100000 in
theorem span_arity.calls (k : Nat) (a0 : ByteArray) (r : Int) (w : World) (h : span_arity.f k a0 = some r) :
  Calls Tryz.prog 59 #[.string a0] w fun e w' => e = .returned (.int .i64 r) ∧ Drawn0 w w' := by
 have H : (if a0.toList = ([110, 101, 103] : List UInt8) then (none) else (if a0.toList = ([97, 98, 115] : List UInt8) then (none) else (if a0.toList = ([102, 108, 111, 111, 114] : List UInt8) then (none) else (if a0.toList = ([114, 111, 117, 110, 100] : List UInt8) then (none) else (if a0.toList = ([102, 114, 97, 99] : List UInt8) then (none) else (span_arity.j0 k a0 (a0.toList == ([110, 111, 116] : List UInt8)))))))) = some r := h; clear h; have HC2 := Aside0.mk H; clear H; go_enter Tryz.func59, Tryz.ntmps59; go_upto_if 4 with (fail)
 go_cut [4] (fun v4 wc => ∃ (kq : Nat) (x4_1 : Bool), v4 = .bool x4_1 ∧ Aside0 (span_arity.j0 kq a0 x4_1 = some r) ∧ Aside0 (kq ≤ k) ∧ Drawn0 w wc)
 case first =>
  have H := HC2.out; clear HC2; by_cases c3 : a0.toList = ([110, 101, 103] : List UInt8)
  · rw [if_pos c3] at H; cases H
  ·
   rw [if_neg c3] at H; have c3b0 : (a0.toList == ([110, 101, 103] : List UInt8)) = false := beq_eq_false_iff_ne.mpr c3; have c3b1 : (a0.toList != ([110, 101, 103] : List UInt8)) = true := bne_iff_ne.mpr c3; (first | rw [c3b0] | (simp only [i64_w, i32_w]; rw [c3b0]) | skip); by_cases c4 : a0.toList = ([97, 98, 115] : List UInt8)
   · rw [if_pos c4] at H; cases H
   ·
    rw [if_neg c4] at H; have c4b0 : (a0.toList == ([97, 98, 115] : List UInt8)) = false := beq_eq_false_iff_ne.mpr c4; have c4b1 : (a0.toList != ([97, 98, 115] : List UInt8)) = true := bne_iff_ne.mpr c4; by_cases c5 : a0.toList = ([102, 108, 111, 111, 114] : List UInt8)
    · rw [if_pos c5] at H; cases H
    ·
     rw [if_neg c5] at H; have c5b0 : (a0.toList == ([102, 108, 111, 111, 114] : List UInt8)) = false := beq_eq_false_iff_ne.mpr c5; have c5b1 : (a0.toList != ([102, 108, 111, 111, 114] : List UInt8)) = true := bne_iff_ne.mpr c5; by_cases c6 : a0.toList = ([114, 111, 117, 110, 100] : List UInt8)
     · rw [if_pos c6] at H; cases H
     ·
      rw [if_neg c6] at H; have c6b0 : (a0.toList == ([114, 111, 117, 110, 100] : List UInt8)) = false := beq_eq_false_iff_ne.mpr c6; have c6b1 : (a0.toList != ([114, 111, 117, 110, 100] : List UInt8)) = true := bne_iff_ne.mpr c6; by_cases c7 : a0.toList = ([102, 114, 97, 99] : List UInt8)
      · rw [if_pos c7] at H; cases H
      ·
       rw [if_neg c7] at H; have c7b0 : (a0.toList == ([102, 114, 97, 99] : List UInt8)) = false := beq_eq_false_iff_ne.mpr c7; have c7b1 : (a0.toList != ([102, 114, 97, 99] : List UInt8)) = true := bne_iff_ne.mpr c7; have H' := Aside0.mk H; clear H; go_wp2; go_meet
       case rel => exact ⟨_, ((a0.toList == ([110, 111, 116] : List UInt8))), (by first | rfl | (simp; done) | (simp [*]; done)), H', ⟨by first | omega | exact Nat.le_refl _⟩, by repeat (first | exact Drawn0.refl _ | apply Drawn0.step)⟩
 case rest =>
  clear HC2; obtain ⟨kq, x4_1, rfl, HA, HJ1, ⟨mc1, rfl⟩⟩ := hcut; cases kq with
  | zero => exact absurd HA.out (by simp [span_arity.j0])
  | succ kj1 =>
   have H := HA.out; clear HA; simp only [span_arity.j0] at H; by_cases c8 : x4_1 = true
   · subst c8; rw [if_pos rfl] at H; cases H
   ·
    replace c8 := Bool.eq_false_iff.mpr c8; subst c8; rw [if_neg (show ¬ (false = true) by decide)] at H; have HC9 := Aside0.mk H; clear H; go_upto_if 11 with (fail)
    go_cut [11] (fun v11 wc => ∃ (kq : Nat) (x11_8 : Bool), v11 = .bool x11_8 ∧ Aside0 (span_arity.j1 kq a0 x11_8 = some r) ∧ Aside0 (kq ≤ kj1) ∧ Drawn0 w wc)
    case first =>
     have H := HC9.out; clear HC9; by_cases c10 : a0.toList = ([97, 100, 100] : List UInt8)
     ·
      rw [if_pos c10] at H; have c10b0 : (a0.toList == ([97, 100, 100] : List UInt8)) = true := beq_iff_eq.mpr c10; have c10b1 : (a0.toList != ([97, 100, 100] : List UInt8)) = false := bne_eq_false_iff_eq.mpr c10; clear c10; (first | rw [c10b0] | (simp only [i64_w, i32_w]; rw [c10b0]) | skip); have H' := Aside0.mk H; clear H; go_wp2; go_meet
      case rel => exact ⟨_, ((a0.toList == ([97, 100, 100] : List UInt8))), (by first | rfl | (simp; done) | (simp [*]; done)), H', ⟨by have := HJ1.out; first | omega | exact Nat.le_refl _⟩, by repeat (first | exact Drawn0.refl _ | apply Drawn0.step)⟩
     · rw [if_neg c10] at H; cases H
    case rest =>
     clear HC9; (try clear c8); obtain ⟨kq, x11_8, rfl, HA, HJ8, ⟨mc8, rfl⟩⟩ := hcut; cases kq with
     | zero => exact absurd HA.out (by simp [span_arity.j1])
     | succ kj8 =>
      have H := HA.out; clear HA; simp only [span_arity.j1] at H; by_cases c25 : x11_8 = true
      · subst c25; rw [if_pos rfl] at H; obtain rfl := Option.some.inj H; go_wp2; go_ret; exact ⟨by first | rfl | (simp; done) | (simp [*]; done), by repeat (first | exact Drawn0.refl _ | apply Drawn0.step)⟩
      · replace c25 := Bool.eq_false_iff.mpr c25; subst c25; rw [if_neg (show ¬ (false = true) by decide)] at H; cases H
def ratio_Neg.f (k : Nat) (a0_0 : Int) (a0_1 : Int) : Option (Int × Int) := (ratio_Is.f k a0_0 a0_1).bind fun t595 => (if t595 = true then (some (wrap64 (-a0_0), a0_1)) else (some (0, 0)))
theorem ratio_Neg.mono : ∀ a0 a1 k, LeO (ratio_Neg.f k a0 a1) (ratio_Neg.f (k + 1) a0 a1) := by
 intro a0 a1 k
 unfold ratio_Neg.f
 repeat' first
   | (with_reducible exact ratio_Is.mono _ _ _)
   | (with_reducible exact LeO.refl _)
   | (with_reducible exact LeO.none _)
   | (with_reducible refine LeO.ite ?_ ?_)
   | (with_reducible refine LeO.bind ?_ (fun _ => ?_))
   | exact ratio_Is.mono _ _ _
   | exact LeO.none _
   | refine LeO.ite ?_ ?_
   | refine LeO.bind ?_ (fun _ => ?_)
set_option maxHeartbeats 8000000 in
set_option maxRecDepth 100000 in
theorem ratio_Neg.calls (k : Nat) (a0_0 : Int) (a0_1 : Int) (r1 : Int) (r2 : Int) (w : World) (h : ratio_Neg.f k a0_0 a0_1 = some (r1, r2)) :
  Calls Tryz.prog 72 #[.agg #[.int .i64 a0_0, .int .i64 a0_1]] w fun e w' => e = .returned (.agg #[.int .i64 r1, .int .i64 r2]) ∧ Below w.heap.size w w' := by
 have hu23 := Tryz.underlying23; have HB := Aside0.mk (Below.refl w.heap.size w); have H : ((ratio_Is.f k a0_0 a0_1).bind fun t595 => (if t595 = true then (some (wrap64 (-a0_0), a0_1)) else (some (0, 0)))) = some (r1, r2) := h; clear h; replace H := Option.bind_eq_some_iff.mp H; obtain ⟨t595, A20, H⟩ := H; (try dsimp only at H); have A2 := Aside0.mk A20; clear A20; by_cases c3 : t595 = true
 · subst c3; rw [if_pos rfl] at H; simp only [Option.some.injEq, Prod.mk.injEq] at H; obtain ⟨rfl, rfl⟩ := H; go_enter Tryz.func72, Tryz.ntmps72; go_wp2_with (first | ((with_reducible refine gate_dst (N := 1) rfl ?_); refine bx_ 1 #[.int .i64 a0_0, .int .i64 a0_1] 23 ?_; intro gb593 hg w4 BK593 hb; have GE593 := hz_ hg HB; replace HB := hs HB hb; clear hb hg) | ((with_reducible refine gate_dst (N := 2) rfl ?_); refine bx_ 2 #[.int .i64 0, .int .i64 0] 23 ?_; intro gb594 hg w5 BK594 hb; have GE594 := ge_ w hg; have NB593_594 := nlk hg BK593; have NB594_593 := ngk hg BK593; replace BK593 := kb BK593 hb; replace HB := hb_ w hb; clear hb hg; have hnb6 := NB593_594.out; have hnc6 := NB594_593.out; obtain ⟨hcz7_0, hcz7_1⟩ := bc2 BK593.out; obtain ⟨hfz7_0, hfz7_1⟩ := bf2 BK593.out) | ((with_reducible refine gate_callee (f := 24) rfl ?_); refine goesL_ (some 4) rfl rfl Tryz.func24 (by kernel_rfl) rfl #[.agg #[.int .i64 a0_0, .int .i64 a0_1]] rfl (by (try simp only [mp]); first | done | rfl | (simp only [ld]; rfl)) ?_; (with_reducible refine (ratio_Is.calls k a0_0 a0_1 true _ A2.out).mono ?_); rintro e w8 ⟨rfl, hb⟩; refine ⟨_, rfl, ?_⟩; replace BK593 := kb BK593 hb; replace BK594 := kb BK594 hb; replace HB := hb_ w hb; obtain ⟨hcz9_0, hcz9_1⟩ := bc2 BK593.out; obtain ⟨hfz9_0, hfz9_1⟩ := bf2 BK593.out; obtain ⟨hcz10_0, hcz10_1⟩ := bc2 BK594.out; obtain ⟨hfz10_0, hfz10_1⟩ := bf2 BK594.out)); refine bodyPost_ret (results_cell_row rfl _ _ gb594 23 #[.int .i64 (wrap64 (-a0_0)), .int .i64 a0_1] (0, 0) _ rfl (by exact rq BK594.out (by rfl)) Tryz.underlying23 rfl (by kernel_rfl)) rfl ?_; exact en_
 · replace c3 := Bool.eq_false_iff.mpr c3; subst c3; rw [if_neg (show ¬ (false = true) by decide)] at H; simp only [Option.some.injEq, Prod.mk.injEq] at H; obtain ⟨rfl, rfl⟩ := H; go_enter Tryz.func72, Tryz.ntmps72; go_wp2_with (first | ((with_reducible refine gate_dst (N := 1) rfl ?_); refine bx_ 1 #[.int .i64 a0_0, .int .i64 a0_1] 23 ?_; intro gb593 hg w11 BK593 hb; have GE593 := hz_ hg HB; replace HB := hs HB hb; clear hb hg) | ((with_reducible refine gate_dst (N := 2) rfl ?_); refine bx_ 2 #[.int .i64 0, .int .i64 0] 23 ?_; intro gb594 hg w12 BK594 hb; have GE594 := ge_ w hg; have NB593_594 := nlk hg BK593; have NB594_593 := ngk hg BK593; replace BK593 := kb BK593 hb; replace HB := hb_ w hb; clear hb hg; have hnb13 := NB593_594.out; have hnc13 := NB594_593.out; obtain ⟨hcz14_0, hcz14_1⟩ := bc2 BK593.out; obtain ⟨hfz14_0, hfz14_1⟩ := bf2 BK593.out) | ((with_reducible refine gate_callee (f := 24) rfl ?_); refine goesL_ (some 4) rfl rfl Tryz.func24 (by kernel_rfl) rfl #[.agg #[.int .i64 a0_0, .int .i64 a0_1]] rfl (by (try simp only [mp]); first | done | rfl | (simp only [ld]; rfl)) ?_; (with_reducible refine (ratio_Is.calls k a0_0 a0_1 false _ A2.out).mono ?_); rintro e w15 ⟨rfl, hb⟩; refine ⟨_, rfl, ?_⟩; replace BK593 := kb BK593 hb; replace BK594 := kb BK594 hb; replace HB := hb_ w hb; obtain ⟨hcz16_0, hcz16_1⟩ := bc2 BK594.out; obtain ⟨hfz16_0, hfz16_1⟩ := bf2 BK594.out)); refine bodyPost_ret (results_cell_row rfl _ _ gb594 23 #[.int .i64 0, .int .i64 0] (0, 0) _ rfl (by exact rq BK594.out (by rfl)) Tryz.underlying23 rfl (by kernel_rfl)) rfl ?_; exact en_
def ratio_Abs.f (k : Nat) (a0_0 : Int) (a0_1 : Int) : Option (Int × Int) := if a0_0 < 0 then ((ratio_Neg.f k a0_0 a0_1).bind fun bt598 => (some (bt598.1, bt598.2))) else ((ratio_Neg.f k a0_0 a0_1).bind fun bt600 => ((ratio_Neg.f k bt600.1 bt600.2).bind fun bt602 => (some (bt602.1, bt602.2))))
theorem ratio_Abs.mono : ∀ a0 a1 k, LeO (ratio_Abs.f k a0 a1) (ratio_Abs.f (k + 1) a0 a1) := by
 intro a0 a1 k
 unfold ratio_Abs.f
 repeat' first
   | (with_reducible exact ratio_Neg.mono _ _ _)
   | (with_reducible exact LeO.refl _)
   | (with_reducible exact LeO.none _)
   | (with_reducible refine LeO.ite ?_ ?_)
   | (with_reducible refine LeO.bind ?_ (fun _ => ?_))
   | exact ratio_Neg.mono _ _ _
   | exact LeO.none _
   | refine LeO.ite ?_ ?_
   | refine LeO.bind ?_ (fun _ => ?_)
set_option maxHeartbeats 8000000 in
set_option maxRecDepth 100000 in
theorem ratio_Abs.calls (k : Nat) (a0_0 : Int) (a0_1 : Int) (r1 : Int) (r2 : Int) (w : World) (h : ratio_Abs.f k a0_0 a0_1 = some (r1, r2)) :
  Calls Tryz.prog 93 #[.agg #[.int .i64 a0_0, .int .i64 a0_1]] w fun e w' => e = .returned (.agg #[.int .i64 r1, .int .i64 r2]) ∧ Below w.heap.size w w' := by
 have hu23 := Tryz.underlying23; have HB := Aside0.mk (Below.refl w.heap.size w); have H : (if a0_0 < 0 then ((ratio_Neg.f k a0_0 a0_1).bind fun bt598 => (some (bt598.1, bt598.2))) else ((ratio_Neg.f k a0_0 a0_1).bind fun bt600 => ((ratio_Neg.f k bt600.1 bt600.2).bind fun bt602 => (some (bt602.1, bt602.2))))) = some (r1, r2) := h; clear h; by_cases c2 : a0_0 < 0
 · rw [if_pos c2] at H; have c2b0 : decide (a0_0 < 0) = true := decide_eq_true c2; clear c2; replace H := Option.bind_eq_some_iff.mp H; obtain ⟨⟨t598, t599⟩, A30, H⟩ := H; (try dsimp only at H); have A3 := Aside0.mk A30; clear A30; simp only [Option.some.injEq, Prod.mk.injEq] at H; obtain ⟨rfl, rfl⟩ := H; go_enter Tryz.func93, Tryz.ntmps93; go_wp2_with (first | ((with_reducible refine gate_dst (N := 1) rfl ?_); refine bx_ 1 #[.int .i64 a0_0, .int .i64 a0_1] 23 ?_; intro gb596 hg w4 BK596 hb; have GE596 := hz_ hg HB; replace HB := hs HB hb; clear hb hg) | ((with_reducible refine gate_dst (N := 2) rfl ?_); refine bx_ 2 #[.int .i64 0, .int .i64 0] 23 ?_; intro gb597 hg w5 BK597 hb; have GE597 := ge_ w hg; have NB596_597 := nlk hg BK596; have NB597_596 := ngk hg BK596; replace BK596 := kb BK596 hb; replace HB := hb_ w hb; clear hb hg; have hnb6 := NB596_597.out; have hnc6 := NB597_596.out; obtain ⟨hcz7_0, hcz7_1⟩ := bc2 BK596.out; obtain ⟨hfz7_0, hfz7_1⟩ := bf2 BK596.out) | ((with_reducible refine gate_callee (f := 72) rfl ?_); refine goesL_ (some 7) rfl rfl Tryz.func72 (by kernel_rfl) rfl #[.agg #[.int .i64 a0_0, .int .i64 a0_1]] rfl (by (try simp only [mp]); first | done | rfl | (simp only [ld]; rfl)) ?_; (with_reducible refine (ratio_Neg.calls k a0_0 a0_1 t598 t599 _ A3.out).mono ?_); rintro e w8 ⟨rfl, hb⟩; refine ⟨_, rfl, ?_⟩; replace BK596 := kb BK596 hb; replace BK597 := kb BK597 hb; replace HB := hb_ w hb; obtain ⟨hcz9_0, hcz9_1⟩ := bc2 BK597.out; obtain ⟨hfz9_0, hfz9_1⟩ := bf2 BK597.out)); refine bodyPost_ret (results_cell_row rfl _ _ gb597 23 #[.int .i64 t598, .int .i64 t599] (0, 0) _ rfl (by exact rq BK597.out (by rfl)) Tryz.underlying23 rfl (by kernel_rfl)) rfl ?_; exact en_
 · rw [if_neg c2] at H; have c2b0 : decide (a0_0 < 0) = false := decide_eq_false c2; clear c2; replace H := Option.bind_eq_some_iff.mp H; obtain ⟨⟨t600, t601⟩, A100, H⟩ := H; (try dsimp only at H); have A10 := Aside0.mk A100; clear A100; replace H := Option.bind_eq_some_iff.mp H; obtain ⟨⟨t602, t603⟩, A110, H⟩ := H; (try dsimp only at H); have A11 := Aside0.mk A110; clear A110; simp only [Option.some.injEq, Prod.mk.injEq] at H; obtain ⟨rfl, rfl⟩ := H; go_enter Tryz.func93, Tryz.ntmps93; go_wp2_with (first | ((with_reducible refine gate_dst (N := 1) rfl ?_); refine bx_ 1 #[.int .i64 a0_0, .int .i64 a0_1] 23 ?_; intro gb596 hg w12 BK596 hb; have GE596 := hz_ hg HB; replace HB := hs HB hb; clear hb hg) | ((with_reducible refine gate_dst (N := 2) rfl ?_); refine bx_ 2 #[.int .i64 0, .int .i64 0] 23 ?_; intro gb597 hg w13 BK597 hb; have GE597 := ge_ w hg; have NB596_597 := nlk hg BK596; have NB597_596 := ngk hg BK596; replace BK596 := kb BK596 hb; replace HB := hb_ w hb; clear hb hg; have hnb14 := NB596_597.out; have hnc14 := NB597_596.out; obtain ⟨hcz15_0, hcz15_1⟩ := bc2 BK596.out; obtain ⟨hfz15_0, hfz15_1⟩ := bf2 BK596.out) | ((with_reducible refine gate_callee (f := 72) rfl ?_); refine goesL_ (some 9) rfl rfl Tryz.func72 (by kernel_rfl) rfl #[.agg #[.int .i64 a0_0, .int .i64 a0_1]] rfl (by (try simp only [mp]); first | done | rfl | (simp only [ld]; rfl)) ?_; (with_reducible refine (ratio_Neg.calls k a0_0 a0_1 t600 t601 _ A10.out).mono ?_); rintro e w16 ⟨rfl, hb⟩; refine ⟨_, rfl, ?_⟩; replace BK596 := kb BK596 hb; replace BK597 := kb BK597 hb; replace HB := hb_ w hb; ) | ((with_reducible refine gate_callee (f := 72) rfl ?_); refine goesL_ (some 10) rfl rfl Tryz.func72 (by kernel_rfl) rfl #[.agg #[.int .i64 t600, .int .i64 t601]] rfl (by (try simp only [mp]); first | done | rfl | (simp only [ld]; rfl)) ?_; (with_reducible refine (ratio_Neg.calls k t600 t601 t602 t603 _ A11.out).mono ?_); rintro e w17 ⟨rfl, hb⟩; refine ⟨_, rfl, ?_⟩; replace BK596 := kb BK596 hb; replace BK597 := kb BK597 hb; replace HB := hb_ w hb; obtain ⟨hcz18_0, hcz18_1⟩ := bc2 BK597.out; obtain ⟨hfz18_0, hfz18_1⟩ := bf2 BK597.out)); refine bodyPost_ret (results_cell_row rfl _ _ gb597 23 #[.int .i64 t602, .int .i64 t603] (0, 0) _ rfl (by exact rq BK597.out (by rfl)) Tryz.underlying23 rfl (by kernel_rfl)) rfl ?_; exact en_
def ratio_Make.j0 : Nat → Int → Int → Int → Int → Bool → Option (Int × Int)
 | 0, _, _, _, _, _ => none
 | k + 1, x0, x1, x5, x6, x30 => if x30 = true then (some (0, 0)) else (if ((decide (x0 < 0)) != (decide (x1 < 0))) = true then (some (wrap64 (-(wrap64 (x5))), wrap64 (x6))) else (some (wrap64 (x5), wrap64 (x6))))
def ratio_Make.f (k : Nat) (a0 : Int) (a1 : Int) : Option (Int × Int) := if a1 = 0 then (some (0, 0)) else ((ratio_size.f a0).bind fun t622 => ((ratio_size.f a1).bind fun t623 => ((ratio_divisor.f k t622 t623).bind fun t624 => (if t624 = 0 then (none) else (if (IntKind.u64.wrap (Int.tdiv t622 t624)) > 1073741824 then (ratio_Make.j0 k a0 a1 (IntKind.u64.wrap (Int.tdiv t622 t624)) (IntKind.u64.wrap (Int.tdiv t623 t624)) true) else (ratio_Make.j0 k a0 a1 (IntKind.u64.wrap (Int.tdiv t622 t624)) (IntKind.u64.wrap (Int.tdiv t623 t624)) (decide ((IntKind.u64.wrap (Int.tdiv t623 t624)) > 1073741824))))))))
theorem ratio_Make.mono_l : ∀ k, (∀ y0 y1 y2 y3 y4, LeO (ratio_Make.j0 k y0 y1 y2 y3 y4) (ratio_Make.j0 (k + 1) y0 y1 y2 y3 y4))
 | 0 => fun _ _ _ _ _ r h => by simp [ratio_Make.j0] at h
 | k + 1 => by
  have ih0 := ratio_Make.mono_l k
  ·
   intro y0 y1 y2 y3 y4
   unfold ratio_Make.j0
   repeat' first
   | (with_reducible exact ih0 _ _ _ _ _)
   | (with_reducible exact ratio_divisor.mono _ _ _)
   | (with_reducible exact LeO.refl _)
   | (with_reducible exact LeO.none _)
   | (with_reducible refine LeO.ite ?_ ?_)
   | (with_reducible refine LeO.bind ?_ (fun _ => ?_))
   | exact ih0 _ _ _ _ _
   | exact ratio_divisor.mono _ _ _
   | exact LeO.none _
   | refine LeO.ite ?_ ?_
   | refine LeO.bind ?_ (fun _ => ?_)
theorem ratio_Make.mono : ∀ a0 a1 k, LeO (ratio_Make.f k a0 a1) (ratio_Make.f (k + 1) a0 a1) := by
 intro a0 a1 k
 have ih0 := ratio_Make.mono_l k
 unfold ratio_Make.f
 repeat' first
   | (with_reducible exact ih0 _ _ _ _ _)
   | (with_reducible exact ratio_divisor.mono _ _ _)
   | (with_reducible exact LeO.refl _)
   | (with_reducible exact LeO.none _)
   | (with_reducible refine LeO.ite ?_ ?_)
   | (with_reducible refine LeO.bind ?_ (fun _ => ?_))
   | exact ih0 _ _ _ _ _
   | exact ratio_divisor.mono _ _ _
   | exact LeO.none _
   | refine LeO.ite ?_ ?_
   | refine LeO.bind ?_ (fun _ => ?_)
set_option maxHeartbeats 8000000 in
set_option maxRecDepth 100000 in
theorem ratio_Make.calls (k : Nat) (a0 : Int) (a1 : Int) (r1 : Int) (r2 : Int) (w : World) (h : ratio_Make.f k a0 a1 = some (r1, r2)) :
  Calls Tryz.prog 94 #[.int .i64 a0, .int .i64 a1] w fun e w' => e = .returned (.agg #[.int .i64 r1, .int .i64 r2]) ∧ Below w.heap.size w w' := by
 have hu23 := Tryz.underlying23; have HB := Aside0.mk (Below.refl w.heap.size w); have H : (if a1 = 0 then (some (0, 0)) else ((ratio_size.f a0).bind fun t622 => ((ratio_size.f a1).bind fun t623 => ((ratio_divisor.f k t622 t623).bind fun t624 => (if t624 = 0 then (none) else (if (IntKind.u64.wrap (Int.tdiv t622 t624)) > 1073741824 then (ratio_Make.j0 k a0 a1 (IntKind.u64.wrap (Int.tdiv t622 t624)) (IntKind.u64.wrap (Int.tdiv t623 t624)) true) else (ratio_Make.j0 k a0 a1 (IntKind.u64.wrap (Int.tdiv t622 t624)) (IntKind.u64.wrap (Int.tdiv t623 t624)) (decide ((IntKind.u64.wrap (Int.tdiv t623 t624)) > 1073741824))))))))) = some (r1, r2) := h; clear h; by_cases c3 : a1 = 0
 · rw [if_pos c3] at H; have c3b0 : (a1 == 0) = true := beq_iff_eq.mpr c3; have c3b1 : (a1 != 0) = false := bne_eq_false_iff_eq.mpr c3; clear c3; simp only [Option.some.injEq, Prod.mk.injEq] at H; obtain ⟨rfl, rfl⟩ := H; go_enter Tryz.func94, Tryz.ntmps94; go_wp2_with (first | ((with_reducible refine gate_dst (N := 4) rfl ?_); refine bx_ 4 #[.int .i64 0, .int .i64 0] 23 ?_; intro gb621 hg w4 BK621 hb; have GE621 := hz_ hg HB; replace HB := hs HB hb; clear hb hg; obtain ⟨hcz5_0, hcz5_1⟩ := bc2 BK621.out; obtain ⟨hfz5_0, hfz5_1⟩ := bf2 BK621.out)); (repeat (go_quiet (first | ((with_reducible refine gate_dst (N := 4) rfl ?_); refine bx_ 4 #[.int .i64 0, .int .i64 0] 23 ?_; intro gb621 hg w4 BK621 hb; have GE621 := hz_ hg HB; replace HB := hs HB hb; clear hb hg; obtain ⟨hcz5_0, hcz5_1⟩ := bc2 BK621.out; obtain ⟨hfz5_0, hfz5_1⟩ := bf2 BK621.out)); try go_wp2_with (first | ((with_reducible refine gate_dst (N := 4) rfl ?_); refine bx_ 4 #[.int .i64 0, .int .i64 0] 23 ?_; intro gb621 hg w4 BK621 hb; have GE621 := hz_ hg HB; replace HB := hs HB hb; clear hb hg; obtain ⟨hcz5_0, hcz5_1⟩ := bc2 BK621.out; obtain ⟨hfz5_0, hfz5_1⟩ := bf2 BK621.out)))); refine bodyPost_ret (results_cell_row rfl _ _ gb621 23 #[.int .i64 0, .int .i64 0] (0, 0) _ rfl (by exact rq BK621.out (by rfl)) Tryz.underlying23 rfl (by kernel_rfl)) rfl ?_; exact en_
 ·
  rw [if_neg c3] at H; have c3b0 : (a1 == 0) = false := beq_eq_false_iff_ne.mpr c3; have c3b1 : (a1 != 0) = true := bne_iff_ne.mpr c3; replace H := Option.bind_eq_some_iff.mp H; obtain ⟨t622, A60, H⟩ := H; (try dsimp only at H); have A6 := Aside0.mk A60; clear A60; replace H := Option.bind_eq_some_iff.mp H; obtain ⟨t623, A70, H⟩ := H; (try dsimp only at H); have A7 := Aside0.mk A70; clear A70; replace H := Option.bind_eq_some_iff.mp H; obtain ⟨t624, A80, H⟩ := H; (try dsimp only at H); have A8 := Aside0.mk A80; clear A80; by_cases c9 : t624 = 0
  · rw [if_pos c9] at H; exact absurd H (by simp)
  ·
   rw [if_neg c9] at H; have c9b0 : (t624 == 0) = false := beq_eq_false_iff_ne.mpr c9; have c9b1 : (t624 != 0) = true := bne_iff_ne.mpr c9; have HC10 := Aside0.mk H; clear H; go_enter Tryz.func94, Tryz.ntmps94; go_upto_region 6 with (first | ((with_reducible refine gate_dst (N := 4) rfl ?_); refine bx_ 4 #[.int .i64 0, .int .i64 0] 23 ?_; intro gb621 hg w11 BK621 hb; have GE621 := hz_ hg HB; replace HB := hs HB hb; clear hb hg) | (go_at_call 50; (with_reducible refine (ratio_size.calls a0 t622 _ A6.out).mono ?_); rintro e w' ⟨rfl, ⟨nd, rfl⟩⟩; (try first | exact ⟨rfl, _, World.drewN_drewN _ _ _⟩ | exact ⟨rfl, _, Eq.trans (World.drewN_drewN _ _ _) (congrArg (World.drewN _) (Nat.add_assoc _ _ _))⟩)) | (go_at_call 50; (with_reducible refine (ratio_size.calls a1 t623 _ A7.out).mono ?_); rintro e w' ⟨rfl, ⟨nd, rfl⟩⟩; (try first | exact ⟨rfl, _, World.drewN_drewN _ _ _⟩ | exact ⟨rfl, _, Eq.trans (World.drewN_drewN _ _ _) (congrArg (World.drewN _) (Nat.add_assoc _ _ _))⟩)) | (go_at_call 49; (with_reducible refine (ratio_divisor.calls k t622 t623 t624 _ A8.out).mono ?_); rintro e w' ⟨rfl, ⟨nd, rfl⟩⟩; (try first | exact ⟨rfl, _, World.drewN_drewN _ _ _⟩ | exact ⟨rfl, _, Eq.trans (World.drewN_drewN _ _ _) (congrArg (World.drewN _) (Nat.add_assoc _ _ _))⟩))); (repeat (go_quiet (first | ((with_reducible refine gate_dst (N := 4) rfl ?_); refine bx_ 4 #[.int .i64 0, .int .i64 0] 23 ?_; intro gb621 hg w11 BK621 hb; have GE621 := hz_ hg HB; replace HB := hs HB hb; clear hb hg) | (go_at_call 50; (with_reducible refine (ratio_size.calls a0 t622 _ A6.out).mono ?_); rintro e w' ⟨rfl, ⟨nd, rfl⟩⟩; (try first | exact ⟨rfl, _, World.drewN_drewN _ _ _⟩ | exact ⟨rfl, _, Eq.trans (World.drewN_drewN _ _ _) (congrArg (World.drewN _) (Nat.add_assoc _ _ _))⟩)) | (go_at_call 50; (with_reducible refine (ratio_size.calls a1 t623 _ A7.out).mono ?_); rintro e w' ⟨rfl, ⟨nd, rfl⟩⟩; (try first | exact ⟨rfl, _, World.drewN_drewN _ _ _⟩ | exact ⟨rfl, _, Eq.trans (World.drewN_drewN _ _ _) (congrArg (World.drewN _) (Nat.add_assoc _ _ _))⟩)) | (go_at_call 49; (with_reducible refine (ratio_divisor.calls k t622 t623 t624 _ A8.out).mono ?_); rintro e w' ⟨rfl, ⟨nd, rfl⟩⟩; (try first | exact ⟨rfl, _, World.drewN_drewN _ _ _⟩ | exact ⟨rfl, _, Eq.trans (World.drewN_drewN _ _ _) (congrArg (World.drewN _) (Nat.add_assoc _ _ _))⟩))); go_upto_region 6 with (first | ((with_reducible refine gate_dst (N := 4) rfl ?_); refine bx_ 4 #[.int .i64 0, .int .i64 0] 23 ?_; intro gb621 hg w11 BK621 hb; have GE621 := hz_ hg HB; replace HB := hs HB hb; clear hb hg) | (go_at_call 50; (with_reducible refine (ratio_size.calls a0 t622 _ A6.out).mono ?_); rintro e w' ⟨rfl, ⟨nd, rfl⟩⟩; (try first | exact ⟨rfl, _, World.drewN_drewN _ _ _⟩ | exact ⟨rfl, _, Eq.trans (World.drewN_drewN _ _ _) (congrArg (World.drewN _) (Nat.add_assoc _ _ _))⟩)) | (go_at_call 50; (with_reducible refine (ratio_size.calls a1 t623 _ A7.out).mono ?_); rintro e w' ⟨rfl, ⟨nd, rfl⟩⟩; (try first | exact ⟨rfl, _, World.drewN_drewN _ _ _⟩ | exact ⟨rfl, _, Eq.trans (World.drewN_drewN _ _ _) (congrArg (World.drewN _) (Nat.add_assoc _ _ _))⟩)) | (go_at_call 49; (with_reducible refine (ratio_divisor.calls k t622 t623 t624 _ A8.out).mono ?_); rintro e w' ⟨rfl, ⟨nd, rfl⟩⟩; (try first | exact ⟨rfl, _, World.drewN_drewN _ _ _⟩ | exact ⟨rfl, _, Eq.trans (World.drewN_drewN _ _ _) (congrArg (World.drewN _) (Nat.add_assoc _ _ _))⟩))))); (try simp only [Act.put, List.setIfInBounds_toArray, List.set_cons_zero, List.set_cons_succ])
   go_cut [30] (fun v30 wc => ∃ (kq : Nat) (x30_9 : Bool), v30 = .bool x30_9 ∧ Aside0 (ratio_Make.j0 kq a0 a1 (IntKind.u64.wrap (Int.tdiv t622 t624)) (IntKind.u64.wrap (Int.tdiv t623 t624)) x30_9 = some (r1, r2)) ∧ Aside0 (kq ≤ k) ∧ Aside0 (wc.heap[gb621]? = some (.cells #[.int .i64 0, .int .i64 0] 23 (0, 0))) ∧ Aside0 (Below w.heap.size w wc))
   case first =>
    have H := HC10.out; clear HC10; by_cases c12 : (IntKind.u64.wrap (Int.tdiv t622 t624)) > 1073741824
    ·
     rw [if_pos c12] at H; have c12b0 : decide (1073741824 < (IntKind.u64.wrap (Int.tdiv t622 t624))) = true := decide_eq_true c12; clear c12; (first | rw [c12b0] | (simp only [i64_w, i32_w]; rw [c12b0]) | skip); have H' := Aside0.mk H; clear H; go_wp2; (repeat (go_quiet (fail); try go_wp2)); go_meet
     case rel => exact ⟨_, (true), (by first | rfl | (simp; done) | (simp [*]; done)), H', ⟨by first | omega | exact Nat.le_refl _⟩, ⟨bk BK621.out⟩, ab2_⟩
    ·
     rw [if_neg c12] at H; have c12b0 : decide (1073741824 < (IntKind.u64.wrap (Int.tdiv t622 t624))) = false := decide_eq_false c12; clear c12; (first | rw [c12b0] | (simp only [i64_w, i32_w]; rw [c12b0]) | skip); have H' := Aside0.mk H; clear H; go_wp2; (repeat (go_quiet (fail); try go_wp2)); go_meet
     case rel => exact ⟨_, (decide ((IntKind.u64.wrap (Int.tdiv t623 t624)) > 1073741824)), (by first | rfl | (simp; done) | (simp [*]; done)), H', ⟨by first | omega | exact Nat.le_refl _⟩, ⟨bk BK621.out⟩, ab2_⟩
   case rest =>
    clear HC10; (try clear c3); (try clear c3b0); (try clear c3b1); (try clear c9); (try clear c9b0); (try clear c9b1); obtain ⟨kq, x30_9, rfl, HA, HJ9, BK621, HB⟩ := hcut; cases kq with
    | zero => exact absurd HA.out (by simp [ratio_Make.j0])
    | succ kj9 =>
     have H := HA.out; clear HA; simp only [ratio_Make.j0] at H; by_cases c13 : x30_9 = true
     · subst c13; rw [if_pos rfl] at H; simp only [Option.some.injEq, Prod.mk.injEq] at H; obtain ⟨rfl, rfl⟩ := H; obtain ⟨hcz14_0, hcz14_1⟩ := bc2 BK621.out; obtain ⟨hfz14_0, hfz14_1⟩ := bf2 BK621.out; go_wp2; (repeat (go_quiet (fail); try go_wp2)); refine bodyPost_ret (results_cell_row rfl _ _ gb621 23 #[.int .i64 0, .int .i64 0] (0, 0) _ rfl (by exact rq BK621.out (by rfl)) Tryz.underlying23 rfl (by kernel_rfl)) rfl ?_; exact en_
     ·
      replace c13 := Bool.eq_false_iff.mpr c13; subst c13; rw [if_neg (show ¬ (false = true) by decide)] at H; by_cases c15 : ((decide (a0 < 0)) != (decide (a1 < 0))) = true
      · rw [if_pos c15] at H; have c15b0 : ((decide (a0 < 0)) != (decide (a1 < 0))) = true := c15; (try (have c15b1 : decide ((decide (a0 < 0)) = (decide (a1 < 0))) = false := by simpa using c15)); (try (have c15b2 : ((decide (a0 < 0)) == (decide (a1 < 0))) = false := by simpa using c15)); (try (have c15b3 : ¬ ((decide (a0 < 0)) = (decide (a1 < 0))) := by simpa using c15)); clear c15; simp only [Option.some.injEq, Prod.mk.injEq] at H; obtain ⟨rfl, rfl⟩ := H; go_wp2_with (first | ((with_reducible refine gate_dst (N := 8) rfl ?_); refine bx_ 8 #[.int .i64 0, .int .i64 0] 23 ?_; intro gb625 hg w16 BK625 hb; have GE625 := ge_ w hg; have NB621_625 := nlk hg BK621; have NB625_621 := ngk hg BK621; replace BK621 := kb BK621 hb; replace HB := hb_ w hb; clear hb hg; have hnb17 := NB625_621.out; have hnc17 := NB621_625.out; obtain ⟨hcz18_0, hcz18_1⟩ := bc2 BK625.out; obtain ⟨hfz18_0, hfz18_1⟩ := bf2 BK625.out; obtain ⟨hcz19_0, hcz19_1⟩ := bc2 BK621.out; obtain ⟨hfz19_0, hfz19_1⟩ := bf2 BK621.out)); (repeat (go_quiet (first | ((with_reducible refine gate_dst (N := 8) rfl ?_); refine bx_ 8 #[.int .i64 0, .int .i64 0] 23 ?_; intro gb625 hg w16 BK625 hb; have GE625 := ge_ w hg; have NB621_625 := nlk hg BK621; have NB625_621 := ngk hg BK621; replace BK621 := kb BK621 hb; replace HB := hb_ w hb; clear hb hg; have hnb17 := NB625_621.out; have hnc17 := NB621_625.out; obtain ⟨hcz18_0, hcz18_1⟩ := bc2 BK625.out; obtain ⟨hfz18_0, hfz18_1⟩ := bf2 BK625.out; obtain ⟨hcz19_0, hcz19_1⟩ := bc2 BK621.out; obtain ⟨hfz19_0, hfz19_1⟩ := bf2 BK621.out)); try go_wp2_with (first | ((with_reducible refine gate_dst (N := 8) rfl ?_); refine bx_ 8 #[.int .i64 0, .int .i64 0] 23 ?_; intro gb625 hg w16 BK625 hb; have GE625 := ge_ w hg; have NB621_625 := nlk hg BK621; have NB625_621 := ngk hg BK621; replace BK621 := kb BK621 hb; replace HB := hb_ w hb; clear hb hg; have hnb17 := NB625_621.out; have hnc17 := NB621_625.out; obtain ⟨hcz18_0, hcz18_1⟩ := bc2 BK625.out; obtain ⟨hfz18_0, hfz18_1⟩ := bf2 BK625.out; obtain ⟨hcz19_0, hcz19_1⟩ := bc2 BK621.out; obtain ⟨hfz19_0, hfz19_1⟩ := bf2 BK621.out)))); refine bodyPost_ret (results_cell_row rfl _ _ gb621 23 #[.int .i64 (wrap64 (-(wrap64 ((IntKind.u64.wrap (Int.tdiv t622 t624)))))), .int .i64 (wrap64 ((IntKind.u64.wrap (Int.tdiv t623 t624))))] (0, 0) _ rfl (by refine bk ?_; refine blk_put (cs := #[.int .i64 (wrap64 (-(wrap64 ((IntKind.u64.wrap (Int.tdiv t622 t624)))))), .int .i64 0]) ?_ 1 _ rfl; refine bk ?_; refine blk_put (cs := #[.int .i64 0, .int .i64 0]) ?_ 0 _ rfl; (iterate 3 refine f1 NB621_625 ?_); refine bk ?_; exact BK621.out) Tryz.underlying23 rfl (by kernel_rfl)) rfl ?_; exact en_
      · rw [if_neg c15] at H; (have c15b0 : ((decide (a0 < 0)) != (decide (a1 < 0))) = false := by simpa using c15); (try (have c15b1 : decide ((decide (a0 < 0)) = (decide (a1 < 0))) = true := by simpa using c15)); (try (have c15b2 : ((decide (a0 < 0)) == (decide (a1 < 0))) = true := by simpa using c15)); clear c15; simp only [Option.some.injEq, Prod.mk.injEq] at H; obtain ⟨rfl, rfl⟩ := H; go_wp2_with (first | ((with_reducible refine gate_dst (N := 8) rfl ?_); refine bx_ 8 #[.int .i64 0, .int .i64 0] 23 ?_; intro gb625 hg w20 BK625 hb; have GE625 := ge_ w hg; have NB621_625 := nlk hg BK621; have NB625_621 := ngk hg BK621; replace BK621 := kb BK621 hb; replace HB := hb_ w hb; clear hb hg; have hnb21 := NB625_621.out; have hnc21 := NB621_625.out; obtain ⟨hcz22_0, hcz22_1⟩ := bc2 BK625.out; obtain ⟨hfz22_0, hfz22_1⟩ := bf2 BK625.out; obtain ⟨hcz23_0, hcz23_1⟩ := bc2 BK621.out; obtain ⟨hfz23_0, hfz23_1⟩ := bf2 BK621.out)); (repeat (go_quiet (first | ((with_reducible refine gate_dst (N := 8) rfl ?_); refine bx_ 8 #[.int .i64 0, .int .i64 0] 23 ?_; intro gb625 hg w20 BK625 hb; have GE625 := ge_ w hg; have NB621_625 := nlk hg BK621; have NB625_621 := ngk hg BK621; replace BK621 := kb BK621 hb; replace HB := hb_ w hb; clear hb hg; have hnb21 := NB625_621.out; have hnc21 := NB621_625.out; obtain ⟨hcz22_0, hcz22_1⟩ := bc2 BK625.out; obtain ⟨hfz22_0, hfz22_1⟩ := bf2 BK625.out; obtain ⟨hcz23_0, hcz23_1⟩ := bc2 BK621.out; obtain ⟨hfz23_0, hfz23_1⟩ := bf2 BK621.out)); try go_wp2_with (first | ((with_reducible refine gate_dst (N := 8) rfl ?_); refine bx_ 8 #[.int .i64 0, .int .i64 0] 23 ?_; intro gb625 hg w20 BK625 hb; have GE625 := ge_ w hg; have NB621_625 := nlk hg BK621; have NB625_621 := ngk hg BK621; replace BK621 := kb BK621 hb; replace HB := hb_ w hb; clear hb hg; have hnb21 := NB625_621.out; have hnc21 := NB621_625.out; obtain ⟨hcz22_0, hcz22_1⟩ := bc2 BK625.out; obtain ⟨hfz22_0, hfz22_1⟩ := bf2 BK625.out; obtain ⟨hcz23_0, hcz23_1⟩ := bc2 BK621.out; obtain ⟨hfz23_0, hfz23_1⟩ := bf2 BK621.out)))); refine bodyPost_ret (results_cell_row rfl _ _ gb621 23 #[.int .i64 (wrap64 ((IntKind.u64.wrap (Int.tdiv t622 t624)))), .int .i64 (wrap64 ((IntKind.u64.wrap (Int.tdiv t623 t624))))] (0, 0) _ rfl (by refine bk ?_; refine blk_put (cs := #[.int .i64 (wrap64 ((IntKind.u64.wrap (Int.tdiv t622 t624)))), .int .i64 0]) ?_ 1 _ rfl; refine bk ?_; refine blk_put (cs := #[.int .i64 0, .int .i64 0]) ?_ 0 _ rfl; refine f1 NB621_625 ?_; refine f1 NB621_625 ?_; refine bk ?_; exact BK621.out) Tryz.underlying23 rfl (by kernel_rfl)) rfl ?_; exact en_
def bits_Mul64.f (a0 : Int) (a1 : Int) : Option (Int × Int) := some (IntKind.u64.wrap ((IntKind.u64.wrap ((IntKind.u64.wrap ((a0 / 4294967296) * (a1 / 4294967296))) + ((IntKind.u64.wrap ((IntKind.u64.wrap ((a0 / 4294967296) * (Go.bits .and .u64 a1 4294967295))) + ((IntKind.u64.wrap ((Go.bits .and .u64 a0 4294967295) * (Go.bits .and .u64 a1 4294967295))) / 4294967296))) / 4294967296))) + ((IntKind.u64.wrap ((Go.bits .and .u64 (IntKind.u64.wrap ((IntKind.u64.wrap ((a0 / 4294967296) * (Go.bits .and .u64 a1 4294967295))) + ((IntKind.u64.wrap ((Go.bits .and .u64 a0 4294967295) * (Go.bits .and .u64 a1 4294967295))) / 4294967296))) 4294967295) + (IntKind.u64.wrap ((Go.bits .and .u64 a0 4294967295) * (a1 / 4294967296))))) / 4294967296)), IntKind.u64.wrap (a0 * a1))
set_option maxHeartbeats 8000000 in
set_option maxRecDepth 100000 in
theorem bits_Mul64.calls (a0 : Int) (a1 : Int) (r1 : Int) (r2 : Int) (w : World) (h : bits_Mul64.f a0 a1 = some (r1, r2)) :
  Calls Tryz.prog 99 #[.int .u64 a0, .int .u64 a1] w fun e w' => e = .returned (.tuple #[.int .u64 r1, .int .u64 r2]) ∧ Drawn0 w w' := by
 have H : (some (IntKind.u64.wrap ((IntKind.u64.wrap ((IntKind.u64.wrap ((a0 / 4294967296) * (a1 / 4294967296))) + ((IntKind.u64.wrap ((IntKind.u64.wrap ((a0 / 4294967296) * (Go.bits .and .u64 a1 4294967295))) + ((IntKind.u64.wrap ((Go.bits .and .u64 a0 4294967295) * (Go.bits .and .u64 a1 4294967295))) / 4294967296))) / 4294967296))) + ((IntKind.u64.wrap ((Go.bits .and .u64 (IntKind.u64.wrap ((IntKind.u64.wrap ((a0 / 4294967296) * (Go.bits .and .u64 a1 4294967295))) + ((IntKind.u64.wrap ((Go.bits .and .u64 a0 4294967295) * (Go.bits .and .u64 a1 4294967295))) / 4294967296))) 4294967295) + (IntKind.u64.wrap ((Go.bits .and .u64 a0 4294967295) * (a1 / 4294967296))))) / 4294967296)), IntKind.u64.wrap (a0 * a1))) = some (r1, r2) := h; clear h; simp only [Option.some.injEq, Prod.mk.injEq] at H; obtain ⟨rfl, rfl⟩ := H; go_enter Tryz.func99, Tryz.ntmps99; go_wp2; go_ret2; exact ⟨by first | rfl | (simp; done) | (simp [*]; done), by repeat (first | exact Drawn0.refl _ | apply Drawn0.step)⟩
def span_end_number.j0 : Nat → Bool → Bool → Int → Int → Bool → Option (Int × Int)
 | 0, _, _, _, _, _ => none
 | k + 1, x1, x25, x662000, x662001, x662002 => if x25 = true then (some (0, 0)) else (if x662001 = 0 then (none) else (if (Int.tmod x662000 x662001) < 0 then (if x1 = true then (if (Int.tmod x662000 x662001) = 0 then ((ratio_Make.f k (wrap64 ((wrap64 (Int.tdiv x662000 x662001)) - 1)) 1).bind fun bt669 => (some (bt669.1, bt669.2))) else ((ratio_Make.f k (wrap64 ((wrap64 ((wrap64 (Int.tdiv x662000 x662001)) - 1)) + 1)) 1).bind fun bt671 => (some (bt671.1, bt671.2)))) else ((ratio_Make.f k (wrap64 ((wrap64 (Int.tdiv x662000 x662001)) - 1)) 1).bind fun bt673 => (some (bt673.1, bt673.2)))) else (if x1 = true then (if (Int.tmod x662000 x662001) = 0 then ((ratio_Make.f k (wrap64 (Int.tdiv x662000 x662001)) 1).bind fun bt675 => (some (bt675.1, bt675.2))) else ((ratio_Make.f k (wrap64 ((wrap64 (Int.tdiv x662000 x662001)) + 1)) 1).bind fun bt677 => (some (bt677.1, bt677.2)))) else ((ratio_Make.f k (wrap64 (Int.tdiv x662000 x662001)) 1).bind fun bt679 => (some (bt679.1, bt679.2))))))
def span_end_number.f (k : Nat) (a0_0 : Int) (a0_1 : Int) (a0_2 : Bool) (a1 : Bool) : Option (Int × Int) := if a0_2 = true then (none) else ((ratio_Make.f k a0_0 a0_1).bind fun bt663 => ((ratio_Is.f k bt663.1 bt663.2).bind fun t666 => (if t666 = true then (some (bt663.1, bt663.2)) else (none))))
theorem span_end_number.mono_l : ∀ k, (∀ y0 y1 y2 y3 y4, LeO (span_end_number.j0 k y0 y1 y2 y3 y4) (span_end_number.j0 (k + 1) y0 y1 y2 y3 y4))
 | 0 => fun _ _ _ _ _ r h => by simp [span_end_number.j0] at h
 | k + 1 => by
  have ih0 := span_end_number.mono_l k
  ·
   intro y0 y1 y2 y3 y4
   unfold span_end_number.j0
   repeat' first
   | (with_reducible exact ih0 _ _ _ _ _)
   | (with_reducible exact ratio_Is.mono _ _ _)
   | (with_reducible exact ratio_Make.mono _ _ _)
   | (with_reducible exact LeO.refl _)
   | (with_reducible exact LeO.none _)
   | (with_reducible refine LeO.ite ?_ ?_)
   | (with_reducible refine LeO.bind ?_ (fun _ => ?_))
   | exact ih0 _ _ _ _ _
   | exact ratio_Is.mono _ _ _
   | exact ratio_Make.mono _ _ _
   | exact LeO.none _
   | refine LeO.ite ?_ ?_
   | refine LeO.bind ?_ (fun _ => ?_)
theorem span_end_number.mono : ∀ a0 a1 a2 a3 k, LeO (span_end_number.f k a0 a1 a2 a3) (span_end_number.f (k + 1) a0 a1 a2 a3) := by
 intro a0 a1 a2 a3 k
 have ih0 := span_end_number.mono_l k
 unfold span_end_number.f
 repeat' first
   | (with_reducible exact ih0 _ _ _ _ _)
   | (with_reducible exact ratio_Is.mono _ _ _)
   | (with_reducible exact ratio_Make.mono _ _ _)
   | (with_reducible exact LeO.refl _)
   | (with_reducible exact LeO.none _)
   | (with_reducible refine LeO.ite ?_ ?_)
   | (with_reducible refine LeO.bind ?_ (fun _ => ?_))
   | exact ih0 _ _ _ _ _
   | exact ratio_Is.mono _ _ _
   | exact ratio_Make.mono _ _ _
   | exact LeO.none _
   | refine LeO.ite ?_ ?_
   | refine LeO.bind ?_ (fun _ => ?_)
set_option maxHeartbeats 8000000 in
set_option maxRecDepth 100000 in
theorem span_end_number.calls (k : Nat) (a0_0 : Int) (a0_1 : Int) (a0_2 : Bool) (a1 : Bool) (r1 : Int) (r2 : Int) (w : World) (h : span_end_number.f k a0_0 a0_1 a0_2 a1 = some (r1, r2)) :
  Calls Tryz.prog 98 #[.agg #[.int .i64 a0_0, .int .i64 a0_1, .bool a0_2], .bool a1] w fun e w' => e = .returned (.agg #[.int .i64 r1, .int .i64 r2]) ∧ Below w.heap.size w w' := by
 have hu76 := Tryz.underlying76; have hu23 := Tryz.underlying23; have HB := Aside0.mk (Below.refl w.heap.size w); have H : (if a0_2 = true then (none) else ((ratio_Make.f k a0_0 a0_1).bind fun bt663 => ((ratio_Is.f k bt663.1 bt663.2).bind fun t666 => (if t666 = true then (some (bt663.1, bt663.2)) else (none))))) = some (r1, r2) := h; clear h; by_cases c3 : a0_2 = true
 · subst c3; rw [if_pos rfl] at H; cases H
 ·
  replace c3 := Bool.eq_false_iff.mpr c3; subst c3; rw [if_neg (show ¬ (false = true) by decide)] at H; replace H := Option.bind_eq_some_iff.mp H; obtain ⟨⟨t663, t664⟩, A90, H⟩ := H; (try dsimp only at H); have A9 := Aside0.mk A90; clear A90; replace H := Option.bind_eq_some_iff.mp H; obtain ⟨t666, A100, H⟩ := H; (try dsimp only at H); have A10 := Aside0.mk A100; clear A100; by_cases c11 : t666 = true
  · subst c11; rw [if_pos rfl] at H; simp only [Option.some.injEq, Prod.mk.injEq] at H; obtain ⟨rfl, rfl⟩ := H; go_enter Tryz.func98, Tryz.ntmps98; go_wp2_with (first | ((with_reducible refine gate_dst (N := 2) rfl ?_); refine bx_ 2 #[.int .i64 a0_0, .int .i64 a0_1, .bool false] 76 ?_; intro gb661 hg w12 BK661 hb; have GE661 := hz_ hg HB; replace HB := hs HB hb; clear hb hg) | ((with_reducible refine gate_dst (N := 4) rfl ?_); refine bx_ 4 #[.int .i64 0, .int .i64 0] 23 ?_; intro gb662 hg w13 BK662 hb; have GE662 := ge_ w hg; have NB661_662 := nlk hg BK661; have NB662_661 := ngk hg BK661; replace BK661 := kb BK661 hb; replace HB := hb_ w hb; clear hb hg; have hnb14 := NB661_662.out; have hnc14 := NB662_661.out; obtain ⟨hcz15_0, hcz15_1, hcz15_2⟩ := bc3 BK661.out; obtain ⟨hfz15_0, hfz15_1, hfz15_2⟩ := bf3 BK661.out) | ((with_reducible refine gate_callee (f := 94) rfl ?_); refine goesL_ (some 14) rfl rfl Tryz.func94 (by kernel_rfl) rfl #[.int .i64 a0_0, .int .i64 a0_1] rfl (by (try simp only [mp]); first | done | rfl | (simp only [ld]; rfl)) ?_; (with_reducible refine (ratio_Make.calls k a0_0 a0_1 t663 t664 _ A9.out).mono ?_); rintro e w16 ⟨rfl, hb⟩; refine ⟨_, rfl, ?_⟩; replace BK661 := kb BK661 hb; replace BK662 := kb BK662 hb; replace HB := hb_ w hb; ) | ((with_reducible refine gate_dst (N := 5) rfl ?_); refine bx_ 5 #[.int .i64 0, .int .i64 0] 23 ?_; intro gb665 hg w17 BK665 hb; have GE665 := ge_ w hg; have NB661_665 := nlk hg BK661; have NB665_661 := ngk hg BK661; have NB662_665 := nlk hg BK662; have NB665_662 := ngk hg BK662; replace BK661 := kb BK661 hb; replace BK662 := kb BK662 hb; replace HB := hb_ w hb; clear hb hg; have hnb18 := NB665_661.out; have hnc18 := NB661_665.out; have hnb19 := NB665_662.out; have hnc19 := NB662_665.out; obtain ⟨hcz20_0, hcz20_1⟩ := bc2 BK665.out; obtain ⟨hfz20_0, hfz20_1⟩ := bf2 BK665.out) | ((with_reducible refine gate_callee (f := 24) rfl ?_); refine goesL_ (some 16) rfl rfl Tryz.func24 (by kernel_rfl) rfl #[.agg #[.int .i64 t663, .int .i64 t664]] rfl (by (try simp only [mp]); first | done | rfl | (simp only [ld]; rfl)) ?_; (with_reducible refine (ratio_Is.calls k t663 t664 true _ A10.out).mono ?_); rintro e w21 ⟨rfl, hb⟩; refine ⟨_, rfl, ?_⟩; replace BK661 := Aside0.mk (blk_below (g := gb661) (o := .cells #[.int .i64 a0_0, .int .i64 a0_1, .bool false] 76 (0, 0)) (by refine f1 NB661_665 ?_; refine f1 NB661_665 ?_; refine bk ?_; exact BK661.out) hb); replace BK662 := Aside0.mk (blk_below (g := gb662) (o := .cells #[.int .i64 0, .int .i64 0] 23 (0, 0)) (by refine f1 NB662_665 ?_; refine f1 NB662_665 ?_; refine bk ?_; exact BK662.out) hb); replace BK665 := Aside0.mk (blk_below (g := gb665) (o := .cells #[.int .i64 t663, .int .i64 t664] 23 (0, 0)) (by exact rq BK665.out (by rfl)) hb); replace HB := hb_ w hb; obtain ⟨hcz22_0, hcz22_1⟩ := bc2 BK665.out; obtain ⟨hfz22_0, hfz22_1⟩ := bf2 BK665.out; obtain ⟨hcz23_0, hcz23_1⟩ := bc2 BK662.out; obtain ⟨hfz23_0, hfz23_1⟩ := bf2 BK662.out)); refine bodyPost_ret (results_cell_row rfl _ _ gb662 23 #[.int .i64 t663, .int .i64 t664] (0, 0) _ rfl (by exact rq BK662.out (by rfl)) Tryz.underlying23 rfl (by kernel_rfl)) rfl ?_; exact en_
  · replace c11 := Bool.eq_false_iff.mpr c11; subst c11; rw [if_neg (show ¬ (false = true) by decide)] at H; cases H
def span_closed.j0 : Nat → Int → Bool → Int → Int → Int → Int → Int → Bool → Bool → Option (Int × Int × Int × Int × Int × Bool × Bool)
 | 0, _, _, _, _, _, _, _, _, _ => none
 | k + 1, x2, x35, x689000, x689001, x689002, x689003, x689004, x689005, x689006 => if x35 = true then (none) else ((ratio_Abs.f k x689000 x689001).bind fun bt691 => ((ratio_Abs.f k x689002 x689003).bind fun bt693 => ((ratio_Max.f k bt691.1 bt691.2 bt693.1 bt693.2).bind fun bt695 => ((bits_Mul64.f (IntKind.u64.wrap (bt695.1)) (IntKind.u64.wrap (x2))).bind fun bt698 => ((bits_Mul64.f 1073741824 (IntKind.u64.wrap (bt695.2))).bind fun bt700 => (if bt698.1 > bt700.1 then (none) else (if bt698.1 = bt700.1 then (if bt698.2 > bt700.2 then (none) else (some (x689000, x689001, x689002, x689003, x689004, x689005, x689006))) else (none))))))))
def span_closed.f (k : Nat) (a0_0 : Int) (a0_1 : Int) (a0_2 : Bool) (a1_0 : Int) (a1_1 : Int) (a1_2 : Bool) (a2 : Int) (a3 : Bool) : Option (Int × Int × Int × Int × Int × Bool × Bool) := (span_end_number.f k a0_0 a0_1 a0_2 false).bind fun bt684 => ((span_end_number.f k a1_0 a1_1 a1_2 true).bind fun bt686 => (if a2 = 0 then (none) else ((ratio_Is.f k bt684.1 bt684.2).bind fun t689 => (if t689 = true then ((ratio_Is.f k bt686.1 bt686.2).bind fun t690 => (span_closed.j0 k a2 (!t690) bt684.1 bt684.2 bt686.1 bt686.2 a2 a3 false)) else (none)))))
theorem span_closed.mono_l : ∀ k, (∀ y0 y1 y2 y3 y4 y5 y6 y7 y8, LeO (span_closed.j0 k y0 y1 y2 y3 y4 y5 y6 y7 y8) (span_closed.j0 (k + 1) y0 y1 y2 y3 y4 y5 y6 y7 y8))
 | 0 => fun _ _ _ _ _ _ _ _ _ r h => by simp [span_closed.j0] at h
 | k + 1 => by
  have ih0 := span_closed.mono_l k
  ·
   intro y0 y1 y2 y3 y4 y5 y6 y7 y8
   unfold span_closed.j0
   repeat' first
   | (with_reducible exact ih0 _ _ _ _ _ _ _ _ _)
   | (with_reducible exact ratio_Abs.mono _ _ _)
   | (with_reducible exact ratio_Is.mono _ _ _)
   | (with_reducible exact ratio_Max.mono _ _ _ _ _)
   | (with_reducible exact span_end_number.mono _ _ _ _ _)
   | (with_reducible exact LeO.refl _)
   | (with_reducible exact LeO.none _)
   | (with_reducible refine LeO.ite ?_ ?_)
   | (with_reducible refine LeO.bind ?_ (fun _ => ?_))
   | exact ih0 _ _ _ _ _ _ _ _ _
   | exact ratio_Abs.mono _ _ _
   | exact ratio_Is.mono _ _ _
   | exact ratio_Max.mono _ _ _ _ _
   | exact span_end_number.mono _ _ _ _ _
   | exact LeO.none _
   | refine LeO.ite ?_ ?_
   | refine LeO.bind ?_ (fun _ => ?_)
theorem span_closed.mono : ∀ a0 a1 a2 a3 a4 a5 a6 a7 k, LeO (span_closed.f k a0 a1 a2 a3 a4 a5 a6 a7) (span_closed.f (k + 1) a0 a1 a2 a3 a4 a5 a6 a7) := by
 intro a0 a1 a2 a3 a4 a5 a6 a7 k
 have ih0 := span_closed.mono_l k
 unfold span_closed.f
 repeat' first
   | (with_reducible exact ih0 _ _ _ _ _ _ _ _ _)
   | (with_reducible exact ratio_Abs.mono _ _ _)
   | (with_reducible exact ratio_Is.mono _ _ _)
   | (with_reducible exact ratio_Max.mono _ _ _ _ _)
   | (with_reducible exact span_end_number.mono _ _ _ _ _)
   | (with_reducible exact LeO.refl _)
   | (with_reducible exact LeO.none _)
   | (with_reducible refine LeO.ite ?_ ?_)
   | (with_reducible refine LeO.bind ?_ (fun _ => ?_))
   | exact ih0 _ _ _ _ _ _ _ _ _
   | exact ratio_Abs.mono _ _ _
   | exact ratio_Is.mono _ _ _
   | exact ratio_Max.mono _ _ _ _ _
   | exact span_end_number.mono _ _ _ _ _
   | exact LeO.none _
   | refine LeO.ite ?_ ?_
   | refine LeO.bind ?_ (fun _ => ?_)
def span_closed.T1 : Bool × List (List Nat × List Nat) := (true, [([], []), ([0], [0]), ([], []), ([2, 1], [2]), ([], []), ([], []), ([1, 3, 4, 5], [1, 3, 4, 5]), ([], []), ([7, 6, 3, 0, 1, 2, 3, 4, 5, 6, 7], [6, 7])])
def span_closed.B1 : List Nat := [0, 1, 0, 7, 0, 0, 63, 0, 255]
theorem span_closed.tab1 : rtab .any (opsOf Tryz.f83 1) = span_closed.T1 := by kernel_rfl
theorem span_closed.bits1 : waitsOk span_closed.T1.2 span_closed.B1 = true := by kernel_rfl
def span_closed.T5 : Bool × List (List Nat × List Nat) := (true, [([], []), ([0], [0]), ([1], [1]), ([], []), ([3], [3]), ([4, 2], [4]), ([2, 5, 5], [2, 5]), ([], []), ([7, 6, 6, 0, 1, 2, 3, 4, 5, 6, 7], [6, 7])])
def span_closed.B5 : List Nat := [0, 1, 3, 0, 8, 31, 63, 0, 255]
theorem span_closed.tab5 : rtab .any (opsOf Tryz.f83 5) = span_closed.T5 := by kernel_rfl
theorem span_closed.bits5 : waitsOk span_closed.T5.2 span_closed.B5 = true := by kernel_rfl
end Go.Proofs.YtlibjgmnookakaaGreatDoor.SSpanSays
namespace Go.Proofs.YtlibjgmnookakaaGreatDoor.SSpanSays
open Go.RowKit Go.Proofs.YtlibjgmnookakaaGreatDoor.Wd.PrintWords Go.Proofs.YtlibjgmnookakaaGreatDoor.Wd.PrintLast Go.Proofs.YtlibjgmnookakaaGreatDoor.Wd.PrintMore
attribute [local go_sem] max2_int min2_int max_two min_two max_three min_three max_four min_four
attribute [local go_sem] max2_int min2_int max_two min_two max_three min_three max_four min_four
attribute [local go_sem] max2_int min2_int max_two min_two max_three min_three max_four min_four
attribute [local go_sem high] eqA23
attribute [local go_sem high] eqA25
set_option maxHeartbeats 8000000 in
set_option maxRecDepth 100000 in
theorem span_closed.calls (k : Nat) (a0_0 : Int) (a0_1 : Int) (a0_2 : Bool) (a1_0 : Int) (a1_1 : Int) (a1_2 : Bool) (a2 : Int) (a3 : Bool) (r1 : Int) (r2 : Int) (r3 : Int) (r4 : Int) (r5 : Int) (r6 : Bool) (r7 : Bool) (w : World) (h : span_closed.f k a0_0 a0_1 a0_2 a1_0 a1_1 a1_2 a2 a3 = some (r1, r2, r3, r4, r5, r6, r7)) :
  Calls Tryz.prog 83 #[.agg #[.int .i64 a0_0, .int .i64 a0_1, .bool a0_2], .agg #[.int .i64 a1_0, .int .i64 a1_1, .bool a1_2], .int .i64 a2, .bool a3] w fun e w' => e = .returned (.agg #[.int .i64 r1, .int .i64 r2, .int .i64 r3, .int .i64 r4, .int .i64 r5, .bool r6, .bool r7]) ∧ Below w.heap.size w w' := by
 have hu76 := Tryz.underlying76; have hu25 := Tryz.underlying25; have hu23 := Tryz.underlying23; have HB := Aside0.mk (Below.refl w.heap.size w); have H : ((span_end_number.f k a0_0 a0_1 a0_2 false).bind fun bt684 => ((span_end_number.f k a1_0 a1_1 a1_2 true).bind fun bt686 => (if a2 = 0 then (none) else ((ratio_Is.f k bt684.1 bt684.2).bind fun t689 => (if t689 = true then ((ratio_Is.f k bt686.1 bt686.2).bind fun t690 => (span_closed.j0 k a2 (!t690) bt684.1 bt684.2 bt686.1 bt686.2 a2 a3 false)) else (none)))))) = some (r1, r2, r3, r4, r5, r6, r7) := h; clear h; replace H := Option.bind_eq_some_iff.mp H; obtain ⟨⟨t684, t685⟩, A50, H⟩ := H; (try dsimp only at H); have A5 := Aside0.mk A50; clear A50; replace H := Option.bind_eq_some_iff.mp H; obtain ⟨⟨t686, t687⟩, A60, H⟩ := H; (try dsimp only at H); have A6 := Aside0.mk A60; clear A60; have HC7 := Aside0.mk H; clear H; go_enter Tryz.func83, Tryz.ntmps83; (try go_wp2_with (first | ((with_reducible refine gate_dst (N := 4) rfl ?_); refine bx_ 4 #[.int .i64 a0_0, .int .i64 a0_1, .bool a0_2] 76 ?_; intro gb681 hg w8 BK681 hb; have GE681 := hz_ hg HB; replace HB := hs HB hb; clear hb hg) | ((with_reducible refine gate_dst (N := 5) rfl ?_); refine bx_ 5 #[.int .i64 a1_0, .int .i64 a1_1, .bool a1_2] 76 ?_; intro gb682 hg w9 BK682 hb; have GE682 := ge_ w hg; have NB681_682 := nlk hg BK681; have NB682_681 := ngk hg BK681; replace BK681 := kb BK681 hb; replace HB := hb_ w hb; clear hb hg) | ((with_reducible refine gate_dst (N := 8) rfl ?_); refine bx_ 8 #[.int .i64 0, .int .i64 0, .int .i64 0, .int .i64 0, .int .i64 0, .bool false, .bool false] 25 ?_; intro gb683 hg w10 BK683 hb; have GE683 := ge_ w hg; have NB681_683 := nlk hg BK681; have NB683_681 := ngk hg BK681; have NB682_683 := nlk hg BK682; have NB683_682 := ngk hg BK682; replace BK681 := kb BK681 hb; replace BK682 := kb BK682 hb; replace HB := hb_ w hb; clear hb hg))); replace BK681 := kd BK681; replace BK682 := kd BK682; replace BK683 := kd BK683; replace HB := Aside0.mk (below_drew1 HB.out); refine start_ (n := 9) (S := fun w' => w'.cell? ⟨gb681, 0, none⟩ = some (.int .i64 a0_0) ∧ w'.cell? ⟨gb681, 1, none⟩ = some (.int .i64 a0_1) ∧ w'.cell? ⟨gb681, 2, none⟩ = some (.bool a0_2) ∧ w'.cell? ⟨gb682, 0, none⟩ = some (.int .i64 a1_0) ∧ w'.cell? ⟨gb682, 1, none⟩ = some (.int .i64 a1_1) ∧ w'.cell? ⟨gb682, 2, none⟩ = some (.bool a1_2)) (ds := []) (bA 9 0) (by kernel_rfl) rfl rfl ⟨(blk_cell BK681.out 0).trans rfl, (blk_cell BK681.out 1).trans rfl, (blk_cell BK681.out 2).trans rfl, (blk_cell BK682.out 0).trans rfl, (blk_cell BK682.out 1).trans rfl, (blk_cell BK682.out 2).trans rfl⟩ (fun hHeld => ?_); refine with_tabW span_closed.tab1 span_closed.bits1 (fun HT_ HW_ => ?_); generalize w10.drew = w11 at BK681 BK682 BK683 HB hHeld ⊢; have hH0 := hHeld; have HBW := hbw w11; refine pure_ (i := 4) (N := some 19) (v := ?_) (a' := ?_) (bA 9 16) rfl rfl (any_of HT_.out (by kernel_rfl)) (fun _ _ _ h => h) (Or.inl ⟨by rfl, ?_⟩) ?_ ?_; rotate_left
 · intro w'; go_simp; with_reducible rfl
 rotate_left
 · simp only [ap]; rfl
 refine pure_ (i := 5) (N := some 20) (v := ?_) (a' := ?_) (bA 9 48) rfl rfl (any_of HT_.out (by kernel_rfl)) (fun _ _ _ h => h) (Or.inl ⟨by rfl, ?_⟩) ?_ ?_; rotate_left
 · intro w'; go_simp; with_reducible rfl
 rotate_left
 · simp only [ap]; rfl
 refine take_ (i := 0) (N := some 15) (v := ?_) (a' := ?_) (bA 9 49) rfl rfl (take_ofW HT_.out HW_.out (by kernel_rfl)) (fun _ _ _ h => h) (Or.inl ⟨by rfl, ?_⟩) hHeld ?_ ?_; rotate_left
 · rintro w' ⟨s0, s1, s2, s3, s4, s5⟩; go_simp; with_reducible rfl
 rotate_left
 · simp only [ap]; rfl
 refine take_ (i := 2) (N := some 17) (v := ?_) (a' := ?_) (bA 9 53) rfl rfl (take_ofW HT_.out HW_.out (by kernel_rfl)) (fun _ _ _ h => h) (Or.inl ⟨by rfl, ?_⟩) hHeld ?_ ?_; rotate_left
 · rintro w' ⟨s0, s1, s2, s3, s4, s5⟩; go_simp; with_reducible rfl
 rotate_left
 · simp only [ap]; rfl
 refine join_ (σ := Nat) 1 (bA 9 255) (fun s_ => [(16, .agg #[.int .i64 t684, .int .i64 t685]), (18, .agg #[.int .i64 t686, .int .i64 t687]), (9, .pointer (some ⟨s_, 0, none⟩)), (21, .agg #[.int .i64 t684, .int .i64 t685, .int .i64 t686, .int .i64 t687, .int .i64 a2, .bool a3, .bool false])]) (fun s_ w' => Aside0 (Below w11.heap.size w11 w') ∧ Aside0 (w'.heap[s_]? = some (.cells #[.int .i64 0, .int .i64 0, .int .i64 0, .int .i64 0, .int .i64 0, .bool false, .bool false] 25 (0, 0))) ∧ Aside0 (w11.heap.size ≤ s_)) ?_ ?_; rotate_left
 ·
  intro hCont; refine two_ (i := 1) (j := 7) (Ni := some 16) (Nj := some 9) (bA 9 55) (bA 9 181) rfl rfl rfl rfl (two_of HT_.out (by kernel_rfl)) (by decide) (by decide) (fun K hK => ?_) (fun K hK => ?_)
  ·
   refine goes_ Tryz.func98 (by kernel_rfl) rfl #[.agg #[.int .i64 a0_0, .int .i64 a0_1, .bool a0_2], .bool false] (by rfl) rfl rfl (by (try simp only [mp]); first | done | rfl | (simp only [ld]; rfl)) ?_; (with_reducible refine (span_end_number.calls k a0_0 a0_1 a0_2 false t684 t685 _ A5.out).mono ?_); rintro e w12 ⟨rfl, hb⟩; refine ⟨_, rfl, ?_⟩; replace HBW := hs HBW hb; clear hb; refine hK.out _ _ (hs6 HBW.out hH0) (fun hHeld => ?_); clear hK K; refine norm_ (a' := ?_) ?_ ?_; rotate_left
   · (show Act.put _ (some 16) _ = _); simp only [ap]; rfl
   refine two_ (i := 3) (j := 7) (Ni := some 18) (Nj := some 9) (bA 9 63) (bA 9 183) rfl rfl rfl rfl (two_of HT_.out (by kernel_rfl)) (by decide) (by decide) (fun K hK => ?_) (fun K hK => ?_)
   ·
    refine goes_ Tryz.func98 (by kernel_rfl) rfl #[.agg #[.int .i64 a1_0, .int .i64 a1_1, .bool a1_2], .bool true] (by rfl) rfl rfl (by (try simp only [mp]); first | done | rfl | (simp only [ld]; rfl)) ?_; (with_reducible refine (span_end_number.calls k a1_0 a1_1 a1_2 true t686 t687 _ A6.out).mono ?_); rintro e w13 ⟨rfl, hb⟩; refine ⟨_, rfl, ?_⟩; replace HBW := hs HBW hb; clear hb; refine hK.out _ _ (hs6 HBW.out hH0) (fun hHeld => ?_); clear hK K; refine norm_ (a' := ?_) ?_ ?_; rotate_left
    · (show Act.put _ (some 18) _ = _); simp only [ap]; rfl
    refine pure_ (i := 6) (N := some 21) (v := ?_) (a' := ?_) (bA 9 127) rfl rfl (any_of HT_.out (by kernel_rfl)) (fun _ _ _ h => h) (Or.inl ⟨by rfl, ?_⟩) ?_ ?_; rotate_left
    · intro w'; go_simp; with_reducible rfl
    rotate_left
    · simp only [ap]; rfl
    refine one_ (i := 7) (N := some 9) (bA 9 255) rfl rfl (one_of HT_.out (by kernel_rfl)) (by decide) (fun K hK => ?_); refine box_step ?hg (N := 9) ?hd (cs := #[.int .i64 0, .int .i64 0, .int .i64 0, .int .i64 0, .int .i64 0, .bool false, .bool false]) (t := 25) ?hr ?_; (case hd => rfl); (case hg => rfl); (case hr => first | (go_simp; done) | (go_simp; rfl)); intro gb688 hg w14 hbox hb; have BK688 := Aside0.mk hbox; have GX688 := hz_ hg HBW; replace HBW := hs HBW hb; clear hb hbox hg; refine hK.out _ _ (hs6 HBW.out hH0) (fun hHeld => ?_); clear hK K; refine norm_ (a' := ?_) ?_ ?_; rotate_left
    · (show Act.put _ (some 9) _ = _); simp only [ap]; rfl
    exact norm_ (by first | (simp only [putAll, ap]; done) | (simp only [putAll, ap]; rfl)) (hCont (gb688) _ ⟨⟨bl HBW.out⟩, ⟨bk BK688.out⟩, GX688⟩)
   ·
    refine box_step ?hg (N := 9) ?hd (cs := #[.int .i64 0, .int .i64 0, .int .i64 0, .int .i64 0, .int .i64 0, .bool false, .bool false]) (t := 25) ?hr ?_; (case hd => rfl); (case hg => rfl); (case hr => first | (go_simp; done) | (go_simp; rfl)); intro gb688 hg w13 hbox hb; have BK688 := Aside0.mk hbox; have GX688 := hz_ hg HBW; replace HBW := hs HBW hb; clear hb hbox hg; refine hK.out _ _ (hs6 HBW.out hH0) (fun hHeld => ?_); clear hK K; refine norm_ (a' := ?_) ?_ ?_; rotate_left
    · (show Act.put _ (some 9) _ = _); simp only [ap]; rfl
    refine one_ (i := 3) (N := some 18) (bA 9 191) rfl rfl (one_of HT_.out (by kernel_rfl)) (by decide) (fun K hK => ?_); refine goes_ Tryz.func98 (by kernel_rfl) rfl #[.agg #[.int .i64 a1_0, .int .i64 a1_1, .bool a1_2], .bool true] (by rfl) rfl rfl (by (try simp only [mp]); first | done | rfl | (simp only [ld]; rfl)) ?_; (with_reducible refine (span_end_number.calls k a1_0 a1_1 a1_2 true t686 t687 _ A6.out).mono ?_); rintro e w14 ⟨rfl, hb⟩; refine ⟨_, rfl, ?_⟩; replace BK688 := kb BK688 hb; replace HBW := hs HBW hb; clear hb; refine hK.out _ _ (hs6 HBW.out hH0) (fun hHeld => ?_); clear hK K; refine norm_ (a' := ?_) ?_ ?_; rotate_left
    · (show Act.put _ (some 18) _ = _); simp only [ap]; rfl
    refine pure_ (i := 6) (N := some 21) (v := ?_) (a' := ?_) (bA 9 255) rfl rfl (any_of HT_.out (by kernel_rfl)) (fun _ _ _ h => h) (Or.inl ⟨by rfl, ?_⟩) ?_ ?_; rotate_left
    · intro w'; go_simp; with_reducible rfl
    rotate_left
    · simp only [ap]; rfl
    exact norm_ (by first | (simp only [putAll, ap]; done) | (simp only [putAll, ap]; rfl)) (hCont (gb688) _ ⟨⟨bl HBW.out⟩, ⟨bk BK688.out⟩, GX688⟩)
  ·
   refine box_step ?hg (N := 9) ?hd (cs := #[.int .i64 0, .int .i64 0, .int .i64 0, .int .i64 0, .int .i64 0, .bool false, .bool false]) (t := 25) ?hr ?_; (case hd => rfl); (case hg => rfl); (case hr => first | (go_simp; done) | (go_simp; rfl)); intro gb688 hg w12 hbox hb; have BK688 := Aside0.mk hbox; have GX688 := hz_ hg HBW; replace HBW := hs HBW hb; clear hb hbox hg; refine hK.out _ _ (hs6 HBW.out hH0) (fun hHeld => ?_); clear hK K; refine norm_ (a' := ?_) ?_ ?_; rotate_left
   · (show Act.put _ (some 9) _ = _); simp only [ap]; rfl
   refine one_ (i := 1) (N := some 16) (bA 9 183) rfl rfl (one_of HT_.out (by kernel_rfl)) (by decide) (fun K hK => ?_); refine goes_ Tryz.func98 (by kernel_rfl) rfl #[.agg #[.int .i64 a0_0, .int .i64 a0_1, .bool a0_2], .bool false] (by rfl) rfl rfl (by (try simp only [mp]); first | done | rfl | (simp only [ld]; rfl)) ?_; (with_reducible refine (span_end_number.calls k a0_0 a0_1 a0_2 false t684 t685 _ A5.out).mono ?_); rintro e w13 ⟨rfl, hb⟩; refine ⟨_, rfl, ?_⟩; replace BK688 := kb BK688 hb; replace HBW := hs HBW hb; clear hb; refine hK.out _ _ (hs6 HBW.out hH0) (fun hHeld => ?_); clear hK K; refine norm_ (a' := ?_) ?_ ?_; rotate_left
   · (show Act.put _ (some 16) _ = _); simp only [ap]; rfl
   refine one_ (i := 3) (N := some 18) (bA 9 191) rfl rfl (one_of HT_.out (by kernel_rfl)) (by decide) (fun K hK => ?_); refine goes_ Tryz.func98 (by kernel_rfl) rfl #[.agg #[.int .i64 a1_0, .int .i64 a1_1, .bool a1_2], .bool true] (by rfl) rfl rfl (by (try simp only [mp]); first | done | rfl | (simp only [ld]; rfl)) ?_; (with_reducible refine (span_end_number.calls k a1_0 a1_1 a1_2 true t686 t687 _ A6.out).mono ?_); rintro e w14 ⟨rfl, hb⟩; refine ⟨_, rfl, ?_⟩; replace BK688 := kb BK688 hb; replace HBW := hs HBW hb; clear hb; refine hK.out _ _ (hs6 HBW.out hH0) (fun hHeld => ?_); clear hK K; refine norm_ (a' := ?_) ?_ ?_; rotate_left
   · (show Act.put _ (some 18) _ = _); simp only [ap]; rfl
   refine pure_ (i := 6) (N := some 21) (v := ?_) (a' := ?_) (bA 9 255) rfl rfl (any_of HT_.out (by kernel_rfl)) (fun _ _ _ h => h) (Or.inl ⟨by rfl, ?_⟩) ?_ ?_; rotate_left
   · intro w'; go_simp; with_reducible rfl
   rotate_left
   · simp only [ap]; rfl
   exact norm_ (by first | (simp only [putAll, ap]; done) | (simp only [putAll, ap]; rfl)) (hCont (gb688) _ ⟨⟨bl HBW.out⟩, ⟨bk BK688.out⟩, GX688⟩)
 clear HBW; rintro gb688 w15 ⟨HBW, BK688, GX688⟩; have hHeld := hs6 HBW.out hH0; refine norm_ (a' := ?_) ?_ ?_; rotate_left
 · simp only [putAll, Act.put, List.setIfInBounds_toArray, List.set_cons_zero, List.set_cons_succ]; rfl
 have GW688 := gx HB GX688; have GE688 := gx HB GX688; have NB681_688 := nlx GX688 BK681; have NB688_681 := ngx GX688 BK681; have NB682_688 := nlx GX688 BK682; have NB688_682 := ngx GX688 BK682; have NB683_688 := nlx GX688 BK683; have NB688_683 := ngx GX688 BK683; replace BK681 := kb BK681 HBW.out; replace BK682 := kb BK682 HBW.out; replace BK683 := kb BK683 HBW.out; replace HB := hs HB HBW.out; refine one_ (i := 8) (N := none) (bA 9 511) rfl rfl (one_of HT_.out (by kernel_rfl)) (by decide) (fun K hK => ?_); have hs16 : w15.cell? ⟨gb688, 0, none⟩ = some (.int .i64 0) := (blk_cell BK688.out 0).trans rfl; have hfs16 := blk_frozen BK688.out 0; have hns16_0 := NB681_688.out; have hns16_1 := NB682_688.out; have hns16_2 := NB683_688.out; have hms16_0 := NB688_681.out; have hms16_1 := NB688_682.out; have hms16_2 := NB688_683.out; have hs17 : w15.cell? ⟨gb688, 1, none⟩ = some (.int .i64 0) := (blk_cell BK688.out 1).trans rfl; have hfs17 := blk_frozen BK688.out 1; have hns17_0 := NB681_688.out; have hns17_1 := NB682_688.out; have hns17_2 := NB683_688.out; have hms17_0 := NB688_681.out; have hms17_1 := NB688_682.out; have hms17_2 := NB688_683.out; have hs18 : w15.cell? ⟨gb688, 2, none⟩ = some (.int .i64 0) := (blk_cell BK688.out 2).trans rfl; have hfs18 := blk_frozen BK688.out 2; have hns18_0 := NB681_688.out; have hns18_1 := NB682_688.out; have hns18_2 := NB683_688.out; have hms18_0 := NB688_681.out; have hms18_1 := NB688_682.out; have hms18_2 := NB688_683.out; have hs19 : w15.cell? ⟨gb688, 3, none⟩ = some (.int .i64 0) := (blk_cell BK688.out 3).trans rfl; have hfs19 := blk_frozen BK688.out 3; have hns19_0 := NB681_688.out; have hns19_1 := NB682_688.out; have hns19_2 := NB683_688.out; have hms19_0 := NB688_681.out; have hms19_1 := NB688_682.out; have hms19_2 := NB688_683.out; have hs20 : w15.cell? ⟨gb688, 4, none⟩ = some (.int .i64 0) := (blk_cell BK688.out 4).trans rfl; have hfs20 := blk_frozen BK688.out 4; have hns20_0 := NB681_688.out; have hns20_1 := NB682_688.out; have hns20_2 := NB683_688.out; have hms20_0 := NB688_681.out; have hms20_1 := NB688_682.out; have hms20_2 := NB688_683.out; have hs21 : w15.cell? ⟨gb688, 5, none⟩ = some (.bool false) := (blk_cell BK688.out 5).trans rfl; have hfs21 := blk_frozen BK688.out 5; have hns21_0 := NB681_688.out; have hns21_1 := NB682_688.out; have hns21_2 := NB683_688.out; have hms21_0 := NB688_681.out; have hms21_1 := NB688_682.out; have hms21_2 := NB688_683.out; have hs22 : w15.cell? ⟨gb688, 6, none⟩ = some (.bool false) := (blk_cell BK688.out 6).trans rfl; have hfs22 := blk_frozen BK688.out 6; have hns22_0 := NB681_688.out; have hns22_1 := NB682_688.out; have hns22_2 := NB683_688.out; have hms22_0 := NB688_681.out; have hms22_1 := NB688_682.out; have hms22_2 := NB688_683.out; refine skip_ (w1 := ?_) (by rfl) rfl ?_ ?_; rotate_left
 · go_simp; rfl
 refine hK.out _ _ (hs6 (bset (bset (bset (bset (bset (bset (bset HBW.out GX688) GX688) GX688) GX688) GX688) GX688) GX688) hH0) (fun hHeld => ?_); clear hK K; refine done_ (done_of HT_.out (by kernel_rfl)) ?_; clear HBW hH0 GX688; go_upto_region 2 with (fail)
 go_cut [35] (fun v35 wc => ∃ (kq : Nat) (x35_6 : Bool), v35 = .bool x35_6 ∧ Aside0 (span_closed.j0 kq a2 x35_6 t684 t685 t686 t687 a2 a3 false = some (r1, r2, r3, r4, r5, r6, r7)) ∧ Aside0 (kq ≤ k) ∧ Aside0 (wc.heap[gb681]? = some (.cells #[.int .i64 a0_0, .int .i64 a0_1, .bool a0_2] 76 (0, 0))) ∧ Aside0 (wc.heap[gb682]? = some (.cells #[.int .i64 a1_0, .int .i64 a1_1, .bool a1_2] 76 (0, 0))) ∧ Aside0 (wc.heap[gb683]? = some (.cells #[.int .i64 0, .int .i64 0, .int .i64 0, .int .i64 0, .int .i64 0, .bool false, .bool false] 25 (0, 0))) ∧ Aside0 (wc.heap[gb688]? = some (.cells #[.int .i64 t684, .int .i64 t685, .int .i64 t686, .int .i64 t687, .int .i64 a2, .bool a3, .bool false] 25 (0, 0))) ∧ Aside0 (Below w.heap.size w wc))
 case first =>
  have H := HC7.out; clear HC7; by_cases c23 : a2 = 0
  · rw [if_pos c23] at H; cases H
  ·
   rw [if_neg c23] at H; have c23b0 : (a2 == 0) = false := beq_eq_false_iff_ne.mpr c23; have c23b1 : (a2 != 0) = true := bne_iff_ne.mpr c23; (first | rw [c23b0] | (simp only [i64_w, i32_w]; rw [c23b0]) | skip); replace H := Option.bind_eq_some_iff.mp H; obtain ⟨t689, A240, H⟩ := H; (try dsimp only at H); have A24 := Aside0.mk A240; clear A240; by_cases c25 : t689 = true
   ·
    subst c25; rw [if_pos rfl] at H; replace H := Option.bind_eq_some_iff.mp H; obtain ⟨t690, A260, H⟩ := H; (try dsimp only at H); have A26 := Aside0.mk A260; clear A260; have H' := Aside0.mk H; clear H; have hnb27 := NB688_681.out; have hnc27 := NB681_688.out; have hnb28 := NB688_682.out; have hnc28 := NB682_688.out; have hnb29 := NB688_683.out; have hnc29 := NB683_688.out; obtain ⟨hcz30_0, hcz30_1, hcz30_2, hcz30_3, hcz30_4, hcz30_5, hcz30_6⟩ := bc7 BK688.out; obtain ⟨hfz30_0, hfz30_1, hfz30_2, hfz30_3, hfz30_4, hfz30_5, hfz30_6⟩ := bf7 BK688.out; go_wp2_with (first | (go_at_call 24; (with_reducible refine (ratio_Is.calls k t684 t685 true _ A24.out).mono ?_); rintro e w31 ⟨rfl, hb⟩; replace BK681 := Aside0.mk (blk_below (g := gb681) (o := .cells #[.int .i64 a0_0, .int .i64 a0_1, .bool a0_2] 76 (0, 0)) (by (iterate 7 refine f1 NB681_688 ?_); refine bk ?_; exact BK681.out) hb); replace BK682 := Aside0.mk (blk_below (g := gb682) (o := .cells #[.int .i64 a1_0, .int .i64 a1_1, .bool a1_2] 76 (0, 0)) (by (iterate 7 refine f1 NB682_688 ?_); refine bk ?_; exact BK682.out) hb); replace BK683 := Aside0.mk (blk_below (g := gb683) (o := .cells #[.int .i64 0, .int .i64 0, .int .i64 0, .int .i64 0, .int .i64 0, .bool false, .bool false] 25 (0, 0)) (by (iterate 7 refine f1 NB683_688 ?_); refine bk ?_; exact BK683.out) hb); replace BK688 := Aside0.mk (blk_below (g := gb688) (o := .cells #[.int .i64 t684, .int .i64 t685, .int .i64 t686, .int .i64 t687, .int .i64 a2, .bool a3, .bool false] 25 (0, 0)) (by exact rq BK688.out (by rfl)) hb); replace HB := hb_ w hb; obtain ⟨hcz32_0, hcz32_1, hcz32_2, hcz32_3, hcz32_4, hcz32_5, hcz32_6⟩ := bc7 BK688.out; obtain ⟨hfz32_0, hfz32_1, hfz32_2, hfz32_3, hfz32_4, hfz32_5, hfz32_6⟩ := bf7 BK688.out) | (go_at_call 24; (with_reducible refine (ratio_Is.calls k t686 t687 t690 _ A26.out).mono ?_); rintro e w33 ⟨rfl, hb⟩; replace BK681 := kb BK681 hb; replace BK682 := kb BK682 hb; replace BK683 := kb BK683 hb; replace BK688 := kb BK688 hb; replace HB := hb_ w hb; )); go_meet
    case rel => exact ⟨_, (!t690), (by first | rfl | (simp; done) | (simp [*]; done)), H', ⟨by first | omega | exact Nat.le_refl _⟩, ⟨bk BK681.out⟩, ⟨bk BK682.out⟩, ⟨bk BK683.out⟩, ⟨bk BK688.out⟩, ab2_⟩
   · replace c25 := Bool.eq_false_iff.mpr c25; subst c25; rw [if_neg (show ¬ (false = true) by decide)] at H; cases H
 case rest =>
  clear HC7; obtain ⟨kq, x35_6, rfl, HA, HJ6, BK681, BK682, BK683, BK688, HB⟩ := hcut; cases kq with
  | zero => exact absurd HA.out (by simp [span_closed.j0])
  | succ kj6 =>
   have H := HA.out; clear HA; simp only [span_closed.j0] at H; by_cases c39 : x35_6 = true
   · subst c39; rw [if_pos rfl] at H; cases H
   ·
    replace c39 := Bool.eq_false_iff.mpr c39; subst c39; rw [if_neg (show ¬ (false = true) by decide)] at H; replace H := Option.bind_eq_some_iff.mp H; obtain ⟨⟨t691, t692⟩, A470, H⟩ := H; (try dsimp only at H); have A47 := Aside0.mk A470; clear A470; replace H := Option.bind_eq_some_iff.mp H; obtain ⟨⟨t693, t694⟩, A480, H⟩ := H; (try dsimp only at H); have A48 := Aside0.mk A480; clear A480; replace H := Option.bind_eq_some_iff.mp H; obtain ⟨⟨t695, t696⟩, A490, H⟩ := H; (try dsimp only at H); have A49 := Aside0.mk A490; clear A490; replace H := Option.bind_eq_some_iff.mp H; obtain ⟨⟨t698, t699⟩, A500, H⟩ := H; (try dsimp only at H); have A50 := Aside0.mk A500; clear A500; replace H := Option.bind_eq_some_iff.mp H; obtain ⟨⟨t700, t701⟩, A510, H⟩ := H; (try dsimp only at H); have A51 := Aside0.mk A510; clear A510; by_cases c52 : t698 > t700
    · rw [if_pos c52] at H; cases H
    ·
     rw [if_neg c52] at H; have c52b0 : decide (t700 < t698) = false := decide_eq_false c52; clear c52; by_cases c73 : t698 = t700
     ·
      rw [if_pos c73] at H; have c73b0 : (t698 == t700) = true := beq_iff_eq.mpr c73; have c73b1 : (t698 != t700) = false := bne_eq_false_iff_eq.mpr c73; clear c73; by_cases c74 : t699 > t701
      · rw [if_pos c74] at H; cases H
      ·
       rw [if_neg c74] at H; have c74b0 : decide (t701 < t699) = false := decide_eq_false c74; clear c74; simp only [Option.some.injEq, Prod.mk.injEq] at H; obtain ⟨rfl, rfl, rfl, rfl, rfl, rfl, rfl⟩ := H; (try go_wp2); replace BK681 := kd BK681; replace BK682 := kd BK682; replace BK683 := kd BK683; replace BK688 := kd BK688; replace HB := Aside0.mk (below_drew1 HB.out); refine start_ (n := 9) (S := fun w' => w'.cell? ⟨gb688, 0, none⟩ = some (.int .i64 t684) ∧ w'.cell? ⟨gb688, 1, none⟩ = some (.int .i64 t685) ∧ w'.cell? ⟨gb688, 2, none⟩ = some (.int .i64 t686) ∧ w'.cell? ⟨gb688, 3, none⟩ = some (.int .i64 t687) ∧ w'.cell? ⟨gb688, 4, none⟩ = some (.int .i64 a2) ∧ w'.cell? ⟨gb688, 5, none⟩ = some (.bool a3) ∧ w'.cell? ⟨gb688, 6, none⟩ = some (.bool false)) (ds := []) (bA 9 0) (by kernel_rfl) rfl rfl ⟨(blk_cell BK688.out 0).trans rfl, (blk_cell BK688.out 1).trans rfl, (blk_cell BK688.out 2).trans rfl, (blk_cell BK688.out 3).trans rfl, (blk_cell BK688.out 4).trans rfl, (blk_cell BK688.out 5).trans rfl, (blk_cell BK688.out 6).trans rfl⟩ (fun hHeld => ?_); refine with_tabW span_closed.tab5 span_closed.bits5 (fun HT_ HW_ => ?_); generalize wc.drew = w95 at BK681 BK682 BK683 BK688 HB hHeld ⊢; have hH0 := hHeld; have HBW := hbw w95; refine pure_ (i := 0) (N := some 38) (v := ?_) (a' := ?_) (bA 9 1) rfl rfl (any_of HT_.out (by kernel_rfl)) (fun _ _ _ h => h) (Or.inl ⟨by rfl, ?_⟩) ?_ ?_; rotate_left
       · intro w'; go_simp; with_reducible rfl
       rotate_left
       · simp only [ap]; rfl
       refine pure_ (i := 3) (N := some 41) (v := ?_) (a' := ?_) (bA 9 9) rfl rfl (any_of HT_.out (by kernel_rfl)) (fun _ _ _ h => h) (Or.inl ⟨by rfl, ?_⟩) ?_ ?_; rotate_left
       · intro w'; go_simp; with_reducible rfl
       rotate_left
       · simp only [ap]; rfl
       refine take_ (i := 1) (N := some 39) (v := ?_) (a' := ?_) (bA 9 11) rfl rfl (take_ofW HT_.out HW_.out (by kernel_rfl)) (fun _ _ _ h => h) (Or.inl ⟨by rfl, ?_⟩) hHeld ?_ ?_; rotate_left
       · rintro w' ⟨s0, s1, s2, s3, s4, s5, s6⟩; go_simp; with_reducible rfl
       rotate_left
       · simp only [ap]; rfl
       refine take_ (i := 4) (N := some 42) (v := ?_) (a' := ?_) (bA 9 27) rfl rfl (take_ofW HT_.out HW_.out (by kernel_rfl)) (fun _ _ _ h => h) (Or.inl ⟨by rfl, ?_⟩) hHeld ?_ ?_; rotate_left
       · rintro w' ⟨s0, s1, s2, s3, s4, s5, s6⟩; go_simp; with_reducible rfl
       rotate_left
       · simp only [ap]; rfl
       refine join_ (σ := Nat) 1 (bA 9 255) (fun s_ => [(40, .agg #[.int .i64 t691, .int .i64 t692]), (43, .agg #[.int .i64 t693, .int .i64 t694]), (44, .agg #[.int .i64 t695, .int .i64 t696]), (10, .pointer (some ⟨s_, 0, none⟩))]) (fun s_ w' => Aside0 (Below w95.heap.size w95 w') ∧ Aside0 (w'.heap[s_]? = some (.cells #[.int .i64 0, .int .i64 0] 23 (0, 0))) ∧ Aside0 (w95.heap.size ≤ s_)) ?_ ?_; rotate_left
       ·
        intro hCont; refine two_ (i := 2) (j := 7) (Ni := some 40) (Nj := some 10) (bA 9 31) (bA 9 155) rfl rfl rfl rfl (two_of HT_.out (by kernel_rfl)) (by decide) (by decide) (fun K hK => ?_) (fun K hK => ?_)
        ·
         refine goes_ Tryz.func93 (by kernel_rfl) rfl #[.agg #[.int .i64 t684, .int .i64 t685]] (by rfl) rfl rfl (by (try simp only [mp]); first | done | rfl | (simp only [ld]; rfl)) ?_; (with_reducible refine (ratio_Abs.calls kj6 t684 t685 t691 t692 _ A47.out).mono ?_); rintro e w96 ⟨rfl, hb⟩; refine ⟨_, rfl, ?_⟩; replace HBW := hs HBW hb; clear hb; refine hK.out _ _ (hs7 HBW.out hH0) (fun hHeld => ?_); clear hK K; refine norm_ (a' := ?_) ?_ ?_; rotate_left
         · (show Act.put _ (some 40) _ = _); simp only [ap]; rfl
         refine two_ (i := 5) (j := 7) (Ni := some 43) (Nj := some 10) (bA 9 63) (bA 9 159) rfl rfl rfl rfl (two_of HT_.out (by kernel_rfl)) (by decide) (by decide) (fun K hK => ?_) (fun K hK => ?_)
         ·
          refine goes_ Tryz.func93 (by kernel_rfl) rfl #[.agg #[.int .i64 t686, .int .i64 t687]] (by rfl) rfl rfl (by (try simp only [mp]); first | done | rfl | (simp only [ld]; rfl)) ?_; (with_reducible refine (ratio_Abs.calls kj6 t686 t687 t693 t694 _ A48.out).mono ?_); rintro e w97 ⟨rfl, hb⟩; refine ⟨_, rfl, ?_⟩; replace HBW := hs HBW hb; clear hb; refine hK.out _ _ (hs7 HBW.out hH0) (fun hHeld => ?_); clear hK K; refine norm_ (a' := ?_) ?_ ?_; rotate_left
          · (show Act.put _ (some 43) _ = _); simp only [ap]; rfl
          refine two_ (i := 6) (j := 7) (Ni := some 44) (Nj := some 10) (bA 9 127) (bA 9 191) rfl rfl rfl rfl (two_of HT_.out (by kernel_rfl)) (by decide) (by decide) (fun K hK => ?_) (fun K hK => ?_)
          ·
           refine goes_ Tryz.func37 (by kernel_rfl) rfl #[.agg #[.int .i64 t691, .int .i64 t692], .agg #[.int .i64 t693, .int .i64 t694]] (by rfl) rfl rfl (by (try simp only [mp]); first | done | rfl | (simp only [ld]; rfl)) ?_; (with_reducible refine (ratio_Max.calls kj6 t691 t692 t693 t694 t695 t696 _ A49.out).mono ?_); rintro e w98 ⟨rfl, hb⟩; refine ⟨_, rfl, ?_⟩; replace HBW := hs HBW hb; clear hb; refine hK.out _ _ (hs7 HBW.out hH0) (fun hHeld => ?_); clear hK K; refine norm_ (a' := ?_) ?_ ?_; rotate_left
           · (show Act.put _ (some 44) _ = _); simp only [ap]; rfl
           refine one_ (i := 7) (N := some 10) (bA 9 255) rfl rfl (one_of HT_.out (by kernel_rfl)) (by decide) (fun K hK => ?_); refine box_step ?hg (N := 10) ?hd (cs := #[.int .i64 0, .int .i64 0]) (t := 23) ?hr ?_; (case hd => rfl); (case hg => rfl); (case hr => first | (go_simp; done) | (go_simp; rfl)); intro gb697 hg w99 hbox hb; have BK697 := Aside0.mk hbox; have GX697 := hz_ hg HBW; replace HBW := hs HBW hb; clear hb hbox hg; refine hK.out _ _ (hs7 HBW.out hH0) (fun hHeld => ?_); clear hK K; refine norm_ (a' := ?_) ?_ ?_; rotate_left
           · (show Act.put _ (some 10) _ = _); simp only [ap]; rfl
           exact norm_ (by first | (simp only [putAll, ap]; done) | (simp only [putAll, ap]; rfl)) (hCont (gb697) _ ⟨⟨bl HBW.out⟩, ⟨bk BK697.out⟩, GX697⟩)
          ·
           refine box_step ?hg (N := 10) ?hd (cs := #[.int .i64 0, .int .i64 0]) (t := 23) ?hr ?_; (case hd => rfl); (case hg => rfl); (case hr => first | (go_simp; done) | (go_simp; rfl)); intro gb697 hg w98 hbox hb; have BK697 := Aside0.mk hbox; have GX697 := hz_ hg HBW; replace HBW := hs HBW hb; clear hb hbox hg; refine hK.out _ _ (hs7 HBW.out hH0) (fun hHeld => ?_); clear hK K; refine norm_ (a' := ?_) ?_ ?_; rotate_left
           · (show Act.put _ (some 10) _ = _); simp only [ap]; rfl
           refine one_ (i := 6) (N := some 44) (bA 9 255) rfl rfl (one_of HT_.out (by kernel_rfl)) (by decide) (fun K hK => ?_); refine goes_ Tryz.func37 (by kernel_rfl) rfl #[.agg #[.int .i64 t691, .int .i64 t692], .agg #[.int .i64 t693, .int .i64 t694]] (by rfl) rfl rfl (by (try simp only [mp]); first | done | rfl | (simp only [ld]; rfl)) ?_; (with_reducible refine (ratio_Max.calls kj6 t691 t692 t693 t694 t695 t696 _ A49.out).mono ?_); rintro e w99 ⟨rfl, hb⟩; refine ⟨_, rfl, ?_⟩; replace BK697 := kb BK697 hb; replace HBW := hs HBW hb; clear hb; refine hK.out _ _ (hs7 HBW.out hH0) (fun hHeld => ?_); clear hK K; refine norm_ (a' := ?_) ?_ ?_; rotate_left
           · (show Act.put _ (some 44) _ = _); simp only [ap]; rfl
           exact norm_ (by first | (simp only [putAll, ap]; done) | (simp only [putAll, ap]; rfl)) (hCont (gb697) _ ⟨⟨bl HBW.out⟩, ⟨bk BK697.out⟩, GX697⟩)
         ·
          refine box_step ?hg (N := 10) ?hd (cs := #[.int .i64 0, .int .i64 0]) (t := 23) ?hr ?_; (case hd => rfl); (case hg => rfl); (case hr => first | (go_simp; done) | (go_simp; rfl)); intro gb697 hg w97 hbox hb; have BK697 := Aside0.mk hbox; have GX697 := hz_ hg HBW; replace HBW := hs HBW hb; clear hb hbox hg; refine hK.out _ _ (hs7 HBW.out hH0) (fun hHeld => ?_); clear hK K; refine norm_ (a' := ?_) ?_ ?_; rotate_left
          · (show Act.put _ (some 10) _ = _); simp only [ap]; rfl
          refine one_ (i := 5) (N := some 43) (bA 9 191) rfl rfl (one_of HT_.out (by kernel_rfl)) (by decide) (fun K hK => ?_); refine goes_ Tryz.func93 (by kernel_rfl) rfl #[.agg #[.int .i64 t686, .int .i64 t687]] (by rfl) rfl rfl (by (try simp only [mp]); first | done | rfl | (simp only [ld]; rfl)) ?_; (with_reducible refine (ratio_Abs.calls kj6 t686 t687 t693 t694 _ A48.out).mono ?_); rintro e w98 ⟨rfl, hb⟩; refine ⟨_, rfl, ?_⟩; replace BK697 := kb BK697 hb; replace HBW := hs HBW hb; clear hb; refine hK.out _ _ (hs7 HBW.out hH0) (fun hHeld => ?_); clear hK K; refine norm_ (a' := ?_) ?_ ?_; rotate_left
          · (show Act.put _ (some 43) _ = _); simp only [ap]; rfl
          refine one_ (i := 6) (N := some 44) (bA 9 255) rfl rfl (one_of HT_.out (by kernel_rfl)) (by decide) (fun K hK => ?_); refine goes_ Tryz.func37 (by kernel_rfl) rfl #[.agg #[.int .i64 t691, .int .i64 t692], .agg #[.int .i64 t693, .int .i64 t694]] (by rfl) rfl rfl (by (try simp only [mp]); first | done | rfl | (simp only [ld]; rfl)) ?_; (with_reducible refine (ratio_Max.calls kj6 t691 t692 t693 t694 t695 t696 _ A49.out).mono ?_); rintro e w99 ⟨rfl, hb⟩; refine ⟨_, rfl, ?_⟩; replace BK697 := kb BK697 hb; replace HBW := hs HBW hb; clear hb; refine hK.out _ _ (hs7 HBW.out hH0) (fun hHeld => ?_); clear hK K; refine norm_ (a' := ?_) ?_ ?_; rotate_left
          · (show Act.put _ (some 44) _ = _); simp only [ap]; rfl
          exact norm_ (by first | (simp only [putAll, ap]; done) | (simp only [putAll, ap]; rfl)) (hCont (gb697) _ ⟨⟨bl HBW.out⟩, ⟨bk BK697.out⟩, GX697⟩)
        ·
         refine box_step ?hg (N := 10) ?hd (cs := #[.int .i64 0, .int .i64 0]) (t := 23) ?hr ?_; (case hd => rfl); (case hg => rfl); (case hr => first | (go_simp; done) | (go_simp; rfl)); intro gb697 hg w96 hbox hb; have BK697 := Aside0.mk hbox; have GX697 := hz_ hg HBW; replace HBW := hs HBW hb; clear hb hbox hg; refine hK.out _ _ (hs7 HBW.out hH0) (fun hHeld => ?_); clear hK K; refine norm_ (a' := ?_) ?_ ?_; rotate_left
         · (show Act.put _ (some 10) _ = _); simp only [ap]; rfl
         refine one_ (i := 2) (N := some 40) (bA 9 159) rfl rfl (one_of HT_.out (by kernel_rfl)) (by decide) (fun K hK => ?_); refine goes_ Tryz.func93 (by kernel_rfl) rfl #[.agg #[.int .i64 t684, .int .i64 t685]] (by rfl) rfl rfl (by (try simp only [mp]); first | done | rfl | (simp only [ld]; rfl)) ?_; (with_reducible refine (ratio_Abs.calls kj6 t684 t685 t691 t692 _ A47.out).mono ?_); rintro e w97 ⟨rfl, hb⟩; refine ⟨_, rfl, ?_⟩; replace BK697 := kb BK697 hb; replace HBW := hs HBW hb; clear hb; refine hK.out _ _ (hs7 HBW.out hH0) (fun hHeld => ?_); clear hK K; refine norm_ (a' := ?_) ?_ ?_; rotate_left
         · (show Act.put _ (some 40) _ = _); simp only [ap]; rfl
         refine one_ (i := 5) (N := some 43) (bA 9 191) rfl rfl (one_of HT_.out (by kernel_rfl)) (by decide) (fun K hK => ?_); refine goes_ Tryz.func93 (by kernel_rfl) rfl #[.agg #[.int .i64 t686, .int .i64 t687]] (by rfl) rfl rfl (by (try simp only [mp]); first | done | rfl | (simp only [ld]; rfl)) ?_; (with_reducible refine (ratio_Abs.calls kj6 t686 t687 t693 t694 _ A48.out).mono ?_); rintro e w98 ⟨rfl, hb⟩; refine ⟨_, rfl, ?_⟩; replace BK697 := kb BK697 hb; replace HBW := hs HBW hb; clear hb; refine hK.out _ _ (hs7 HBW.out hH0) (fun hHeld => ?_); clear hK K; refine norm_ (a' := ?_) ?_ ?_; rotate_left
         · (show Act.put _ (some 43) _ = _); simp only [ap]; rfl
         refine one_ (i := 6) (N := some 44) (bA 9 255) rfl rfl (one_of HT_.out (by kernel_rfl)) (by decide) (fun K hK => ?_); refine goes_ Tryz.func37 (by kernel_rfl) rfl #[.agg #[.int .i64 t691, .int .i64 t692], .agg #[.int .i64 t693, .int .i64 t694]] (by rfl) rfl rfl (by (try simp only [mp]); first | done | rfl | (simp only [ld]; rfl)) ?_; (with_reducible refine (ratio_Max.calls kj6 t691 t692 t693 t694 t695 t696 _ A49.out).mono ?_); rintro e w99 ⟨rfl, hb⟩; refine ⟨_, rfl, ?_⟩; replace BK697 := kb BK697 hb; replace HBW := hs HBW hb; clear hb; refine hK.out _ _ (hs7 HBW.out hH0) (fun hHeld => ?_); clear hK K; refine norm_ (a' := ?_) ?_ ?_; rotate_left
         · (show Act.put _ (some 44) _ = _); simp only [ap]; rfl
         exact norm_ (by first | (simp only [putAll, ap]; done) | (simp only [putAll, ap]; rfl)) (hCont (gb697) _ ⟨⟨bl HBW.out⟩, ⟨bk BK697.out⟩, GX697⟩)
       clear HBW; rintro gb697 w100 ⟨HBW, BK697, GX697⟩; have hHeld := hs7 HBW.out hH0; refine norm_ (a' := ?_) ?_ ?_; rotate_left
       · simp only [putAll, Act.put, List.setIfInBounds_toArray, List.set_cons_zero, List.set_cons_succ]; rfl
       have GW697 := gx HB GX697; have GE697 := gx HB GX697; have NB681_697 := nlx GX697 BK681; have NB697_681 := ngx GX697 BK681; have NB682_697 := nlx GX697 BK682; have NB697_682 := ngx GX697 BK682; have NB683_697 := nlx GX697 BK683; have NB697_683 := ngx GX697 BK683; have NB688_697 := nlx GX697 BK688; have NB697_688 := ngx GX697 BK688; replace BK681 := kb BK681 HBW.out; replace BK682 := kb BK682 HBW.out; replace BK683 := kb BK683 HBW.out; replace BK688 := kb BK688 HBW.out; replace HB := hs HB HBW.out; refine one_ (i := 8) (N := none) (bA 9 511) rfl rfl (one_of HT_.out (by kernel_rfl)) (by decide) (fun K hK => ?_); have hs101 : w100.cell? ⟨gb697, 0, none⟩ = some (.int .i64 0) := (blk_cell BK697.out 0).trans rfl; have hfs101 := blk_frozen BK697.out 0; have hns101_0 := NB681_697.out; have hns101_1 := NB682_697.out; have hns101_2 := NB683_697.out; have hns101_3 := NB688_697.out; have hms101_0 := NB697_681.out; have hms101_1 := NB697_682.out; have hms101_2 := NB697_683.out; have hms101_3 := NB697_688.out; have hs102 : w100.cell? ⟨gb697, 1, none⟩ = some (.int .i64 0) := (blk_cell BK697.out 1).trans rfl; have hfs102 := blk_frozen BK697.out 1; have hns102_0 := NB681_697.out; have hns102_1 := NB682_697.out; have hns102_2 := NB683_697.out; have hns102_3 := NB688_697.out; have hms102_0 := NB697_681.out; have hms102_1 := NB697_682.out; have hms102_2 := NB697_683.out; have hms102_3 := NB697_688.out; refine skip_ (w1 := ?_) (by rfl) rfl ?_ ?_; rotate_left
       · go_simp; rfl
       refine hK.out _ _ (hs7 (bset (bset HBW.out GX697) GX697) hH0) (fun hHeld => ?_); clear hK K; refine done_ (done_of HT_.out (by kernel_rfl)) ?_; clear HBW hH0 GX697; have hnb103 := NB697_681.out; have hnc103 := NB681_697.out; have hnb104 := NB697_682.out; have hnc104 := NB682_697.out; have hnb105 := NB697_683.out; have hnc105 := NB683_697.out; have hnb106 := NB697_688.out; have hnc106 := NB688_697.out; obtain ⟨hcz107_0, hcz107_1⟩ := bc2 BK697.out; obtain ⟨hfz107_0, hfz107_1⟩ := bf2 BK697.out; (try go_wp2_with (first | ((with_reducible refine gate_callee (f := 99) rfl ?_); refine goesL_ (some 51) rfl rfl Tryz.func99 (by kernel_rfl) rfl #[.int .u64 (IntKind.u64.wrap (t695)), .int .u64 (IntKind.u64.wrap (a2))] rfl (by (try simp only [mp]); first | done | rfl | (simp only [ld]; rfl)) ?_; (with_reducible refine (bits_Mul64.calls (IntKind.u64.wrap (t695)) (IntKind.u64.wrap (a2)) t698 t699 _ A50.out).mono ?_); rintro e w' ⟨rfl, ⟨nd, rfl⟩⟩; refine ⟨_, rfl, ?_⟩) | ((with_reducible refine gate_callee (f := 99) rfl ?_); refine goesL_ (some 58) rfl rfl Tryz.func99 (by kernel_rfl) rfl #[.int .u64 1073741824, .int .u64 (IntKind.u64.wrap (t696))] rfl (by (try simp only [mp]); first | done | rfl | (simp only [ld]; rfl)) ?_; (with_reducible refine (bits_Mul64.calls 1073741824 (IntKind.u64.wrap (t696)) t700 t701 _ A51.out).mono ?_); rintro e w' ⟨rfl, ⟨nd, rfl⟩⟩; refine ⟨_, rfl, ?_⟩; have hnb108 := NB688_681.out; have hnc108 := NB681_688.out; have hnb109 := NB688_682.out; have hnc109 := NB682_688.out; have hnb110 := NB688_683.out; have hnc110 := NB683_688.out; obtain ⟨hcz111_0, hcz111_1, hcz111_2, hcz111_3, hcz111_4, hcz111_5, hcz111_6⟩ := bc7 BK688.out; obtain ⟨hfz111_0, hfz111_1, hfz111_2, hfz111_3, hfz111_4, hfz111_5, hfz111_6⟩ := bf7 BK688.out; have hnb112 := NB683_681.out; have hnc112 := NB681_683.out; have hnb113 := NB683_682.out; have hnc113 := NB682_683.out; obtain ⟨hcz114_0, hcz114_1, hcz114_2, hcz114_3, hcz114_4, hcz114_5, hcz114_6⟩ := bc7 BK683.out; obtain ⟨hfz114_0, hfz114_1, hfz114_2, hfz114_3, hfz114_4, hfz114_5, hfz114_6⟩ := bf7 BK683.out))); refine bodyPost_ret (results_cell_row rfl _ _ gb683 25 #[.int .i64 t684, .int .i64 t685, .int .i64 t686, .int .i64 t687, .int .i64 a2, .bool a3, .bool false] (0, 0) _ rfl (by refine bk ?_; refine blk_put (cs := #[.int .i64 t684, .int .i64 t685, .int .i64 t686, .int .i64 t687, .int .i64 a2, .bool a3, .bool false]) ?_ 6 _ rfl; refine bk ?_; refine blk_put (cs := #[.int .i64 t684, .int .i64 t685, .int .i64 t686, .int .i64 t687, .int .i64 a2, .bool false, .bool false]) ?_ 5 _ rfl; refine bk ?_; refine blk_put (cs := #[.int .i64 t684, .int .i64 t685, .int .i64 t686, .int .i64 t687, .int .i64 0, .bool false, .bool false]) ?_ 4 _ rfl; refine bk ?_; refine blk_put (cs := #[.int .i64 t684, .int .i64 t685, .int .i64 t686, .int .i64 0, .int .i64 0, .bool false, .bool false]) ?_ 3 _ rfl; refine bk ?_; refine blk_put (cs := #[.int .i64 t684, .int .i64 t685, .int .i64 0, .int .i64 0, .int .i64 0, .bool false, .bool false]) ?_ 2 _ rfl; refine bk ?_; refine blk_put (cs := #[.int .i64 t684, .int .i64 0, .int .i64 0, .int .i64 0, .int .i64 0, .bool false, .bool false]) ?_ 1 _ rfl; refine bk ?_; refine blk_put (cs := #[.int .i64 0, .int .i64 0, .int .i64 0, .int .i64 0, .int .i64 0, .bool false, .bool false]) ?_ 0 _ rfl; refine f1 NB683_697 ?_; refine f1 NB683_697 ?_; refine bk ?_; exact BK683.out) Tryz.underlying25 rfl (by kernel_rfl)) rfl ?_; exact en_
     · rw [if_neg c73] at H; cases H
def span_plus.f (k : Nat) (a0_0 : Int) (a0_1 : Int) (a1_0 : Int) (a1_1 : Int) : Option (Int × Int × Bool) := (ratio_Is.f k a0_0 a0_1).bind fun t705 => (if t705 = true then ((ratio_Is.f k a1_0 a1_1).bind fun t706 => (if t706 = true then (some (wrap64 ((wrap64 (a0_0 * a1_1)) + (wrap64 (a1_0 * a0_1))), wrap64 (a0_1 * a1_1), false)) else (none))) else (none))
theorem span_plus.mono : ∀ a0 a1 a2 a3 k, LeO (span_plus.f k a0 a1 a2 a3) (span_plus.f (k + 1) a0 a1 a2 a3) := by
 intro a0 a1 a2 a3 k
 unfold span_plus.f
 repeat' first
   | (with_reducible exact ratio_Is.mono _ _ _)
   | (with_reducible exact LeO.refl _)
   | (with_reducible exact LeO.none _)
   | (with_reducible refine LeO.ite ?_ ?_)
   | (with_reducible refine LeO.bind ?_ (fun _ => ?_))
   | exact ratio_Is.mono _ _ _
   | exact LeO.none _
   | refine LeO.ite ?_ ?_
   | refine LeO.bind ?_ (fun _ => ?_)
set_option maxHeartbeats 8000000 in
set_option maxRecDepth 100000 in
theorem span_plus.calls (k : Nat) (a0_0 : Int) (a0_1 : Int) (a1_0 : Int) (a1_1 : Int) (r1 : Int) (r2 : Int) (r3 : Bool) (w : World) (h : span_plus.f k a0_0 a0_1 a1_0 a1_1 = some (r1, r2, r3)) :
  Calls Tryz.prog 96 #[.agg #[.int .i64 a0_0, .int .i64 a0_1], .agg #[.int .i64 a1_0, .int .i64 a1_1]] w fun e w' => e = .returned (.agg #[.int .i64 r1, .int .i64 r2, .bool r3]) ∧ Below w.heap.size w w' := by
 have hu23 := Tryz.underlying23; have hu76 := Tryz.underlying76; have HB := Aside0.mk (Below.refl w.heap.size w); have H : ((ratio_Is.f k a0_0 a0_1).bind fun t705 => (if t705 = true then ((ratio_Is.f k a1_0 a1_1).bind fun t706 => (if t706 = true then (some (wrap64 ((wrap64 (a0_0 * a1_1)) + (wrap64 (a1_0 * a0_1))), wrap64 (a0_1 * a1_1), false)) else (none))) else (none))) = some (r1, r2, r3) := h; clear h; replace H := Option.bind_eq_some_iff.mp H; obtain ⟨t705, A30, H⟩ := H; (try dsimp only at H); have A3 := Aside0.mk A30; clear A30; by_cases c4 : t705 = true
 ·
  subst c4; rw [if_pos rfl] at H; replace H := Option.bind_eq_some_iff.mp H; obtain ⟨t706, A50, H⟩ := H; (try dsimp only at H); have A5 := Aside0.mk A50; clear A50; by_cases c6 : t706 = true
  · subst c6; rw [if_pos rfl] at H; simp only [Option.some.injEq, Prod.mk.injEq] at H; obtain ⟨rfl, rfl, rfl⟩ := H; go_enter Tryz.func96, Tryz.ntmps96; go_wp2_with (first | ((with_reducible refine gate_dst (N := 2) rfl ?_); refine bx_ 2 #[.int .i64 a0_0, .int .i64 a0_1] 23 ?_; intro gb702 hg w7 BK702 hb; have GE702 := hz_ hg HB; replace HB := hs HB hb; clear hb hg) | ((with_reducible refine gate_dst (N := 3) rfl ?_); refine bx_ 3 #[.int .i64 a1_0, .int .i64 a1_1] 23 ?_; intro gb703 hg w8 BK703 hb; have GE703 := ge_ w hg; have NB702_703 := nlk hg BK702; have NB703_702 := ngk hg BK702; replace BK702 := kb BK702 hb; replace HB := hb_ w hb; clear hb hg) | ((with_reducible refine gate_dst (N := 4) rfl ?_); refine bx_ 4 #[.int .i64 0, .int .i64 0, .bool false] 76 ?_; intro gb704 hg w9 BK704 hb; have GE704 := ge_ w hg; have NB702_704 := nlk hg BK702; have NB704_702 := ngk hg BK702; have NB703_704 := nlk hg BK703; have NB704_703 := ngk hg BK703; replace BK702 := kb BK702 hb; replace BK703 := kb BK703 hb; replace HB := hb_ w hb; clear hb hg; have hnb10 := NB702_703.out; have hnc10 := NB703_702.out; have hnb11 := NB702_704.out; have hnc11 := NB704_702.out; obtain ⟨hcz12_0, hcz12_1⟩ := bc2 BK702.out; obtain ⟨hfz12_0, hfz12_1⟩ := bf2 BK702.out) | ((with_reducible refine gate_callee (f := 24) rfl ?_); refine goesL_ (some 6) rfl rfl Tryz.func24 (by kernel_rfl) rfl #[.agg #[.int .i64 a0_0, .int .i64 a0_1]] rfl (by (try simp only [mp]); first | done | rfl | (simp only [ld]; rfl)) ?_; (with_reducible refine (ratio_Is.calls k a0_0 a0_1 true _ A3.out).mono ?_); rintro e w13 ⟨rfl, hb⟩; refine ⟨_, rfl, ?_⟩; replace BK702 := kb BK702 hb; replace BK703 := kb BK703 hb; replace BK704 := kb BK704 hb; replace HB := hb_ w hb; have hnb14 := NB703_704.out; have hnc14 := NB704_703.out; obtain ⟨hcz15_0, hcz15_1⟩ := bc2 BK703.out; obtain ⟨hfz15_0, hfz15_1⟩ := bf2 BK703.out) | (go_at_call 24; (with_reducible refine (ratio_Is.calls k a1_0 a1_1 true _ A5.out).mono ?_); rintro e w16 ⟨rfl, hb⟩; replace BK702 := kb BK702 hb; replace BK703 := kb BK703 hb; replace BK704 := kb BK704 hb; replace HB := hb_ w hb; obtain ⟨hcz17_0, hcz17_1⟩ := bc2 BK702.out; obtain ⟨hfz17_0, hfz17_1⟩ := bf2 BK702.out; obtain ⟨hcz18_0, hcz18_1⟩ := bc2 BK703.out; obtain ⟨hfz18_0, hfz18_1⟩ := bf2 BK703.out; obtain ⟨hcz19_0, hcz19_1, hcz19_2⟩ := bc3 BK704.out; obtain ⟨hfz19_0, hfz19_1, hfz19_2⟩ := bf3 BK704.out)); refine bodyPost_ret (results_cell_row rfl _ _ gb704 76 #[.int .i64 (wrap64 ((wrap64 (a0_0 * a1_1)) + (wrap64 (a1_0 * a0_1)))), .int .i64 (wrap64 (a0_1 * a1_1)), .bool false] (0, 0) _ rfl (by exact rq BK704.out (by rfl)) Tryz.underlying76 rfl (by kernel_rfl)) rfl ?_; exact en_
  · replace c6 := Bool.eq_false_iff.mpr c6; subst c6; rw [if_neg (show ¬ (false = true) by decide)] at H; cases H
 · replace c4 := Bool.eq_false_iff.mpr c4; subst c4; rw [if_neg (show ¬ (false = true) by decide)] at H; cases H
def span_sum.f (k : Nat) (a0_0 : Int) (a0_1 : Int) (a0_2 : Int) (a0_3 : Int) (a0_4 : Int) (a0_5 : Bool) (a0_6 : Bool) (a1_0 : Int) (a1_1 : Int) (a1_2 : Int) (a1_3 : Int) (a1_4 : Int) (a1_5 : Bool) (a1_6 : Bool) (a2 : Bool) : Option (Int × Int × Int × Int × Int × Bool × Bool) := (span_plus.f k a0_0 a0_1 a1_0 a1_1).bind fun bt710 => ((span_plus.f k a0_2 a0_3 a1_2 a1_3).bind fun bt713 => ((span_common.f k a0_4 a1_4).bind fun t716 => ((span_closed.f k bt710.1 bt710.2.1 bt710.2.2 bt713.1 bt713.2.1 bt713.2.2 t716 a2).bind fun bt717 => (some (bt717.1, bt717.2.1, bt717.2.2.1, bt717.2.2.2.1, bt717.2.2.2.2.1, bt717.2.2.2.2.2.1, bt717.2.2.2.2.2.2)))))
theorem span_sum.mono : ∀ a0 a1 a2 a3 a4 a5 a6 a7 a8 a9 a10 a11 a12 a13 a14 k, LeO (span_sum.f k a0 a1 a2 a3 a4 a5 a6 a7 a8 a9 a10 a11 a12 a13 a14) (span_sum.f (k + 1) a0 a1 a2 a3 a4 a5 a6 a7 a8 a9 a10 a11 a12 a13 a14) := by
 intro a0 a1 a2 a3 a4 a5 a6 a7 a8 a9 a10 a11 a12 a13 a14 k
 unfold span_sum.f
 repeat' first
   | (with_reducible exact span_closed.mono _ _ _ _ _ _ _ _ _)
   | (with_reducible exact span_common.mono _ _ _)
   | (with_reducible exact span_plus.mono _ _ _ _ _)
   | (with_reducible exact LeO.refl _)
   | (with_reducible exact LeO.none _)
   | (with_reducible refine LeO.ite ?_ ?_)
   | (with_reducible refine LeO.bind ?_ (fun _ => ?_))
   | exact span_closed.mono _ _ _ _ _ _ _ _ _
   | exact span_common.mono _ _ _
   | exact span_plus.mono _ _ _ _ _
   | exact LeO.none _
   | refine LeO.ite ?_ ?_
   | refine LeO.bind ?_ (fun _ => ?_)
def span_sum.T1 : Bool × List (List Nat × List Nat) := (true, [([], []), ([0], [0]), ([], []), ([2], [2]), ([1, 3], [1, 3]), ([], []), ([5], [5]), ([], []), ([7], [7]), ([6, 8, 4], [6, 8]), ([], []), ([10], [10]), ([], []), ([12], [12]), ([11, 13, 9], [11, 13]), ([], []), ([4, 9, 14, 15, 14], [4, 9, 14, 15]), ([16, 16, 0, 1, 2, 3, 4, 5, 6, 7, 8, 9, 10, 11, 12, 13, 14, 15, 16], [16])])
def span_sum.B1 : List Nat := [0, 1, 0, 4, 15, 0, 32, 0, 128, 511, 0, 1024, 0, 4096, 16383, 0, 65535, 131071]
theorem span_sum.tab1 : rtab .any (opsOf Tryz.f78 1) = span_sum.T1 := by kernel_rfl
theorem span_sum.bits1 : waitsOk span_sum.T1.2 span_sum.B1 = true := by kernel_rfl
set_option maxHeartbeats 8000000 in
set_option maxRecDepth 100000 in
theorem span_sum.calls (k : Nat) (a0_0 : Int) (a0_1 : Int) (a0_2 : Int) (a0_3 : Int) (a0_4 : Int) (a0_5 : Bool) (a0_6 : Bool) (a1_0 : Int) (a1_1 : Int) (a1_2 : Int) (a1_3 : Int) (a1_4 : Int) (a1_5 : Bool) (a1_6 : Bool) (a2 : Bool) (r1 : Int) (r2 : Int) (r3 : Int) (r4 : Int) (r5 : Int) (r6 : Bool) (r7 : Bool) (w : World) (h : span_sum.f k a0_0 a0_1 a0_2 a0_3 a0_4 a0_5 a0_6 a1_0 a1_1 a1_2 a1_3 a1_4 a1_5 a1_6 a2 = some (r1, r2, r3, r4, r5, r6, r7)) :
  Calls Tryz.prog 78 #[.agg #[.int .i64 a0_0, .int .i64 a0_1, .int .i64 a0_2, .int .i64 a0_3, .int .i64 a0_4, .bool a0_5, .bool a0_6], .agg #[.int .i64 a1_0, .int .i64 a1_1, .int .i64 a1_2, .int .i64 a1_3, .int .i64 a1_4, .bool a1_5, .bool a1_6], .bool a2] w fun e w' => e = .returned (.agg #[.int .i64 r1, .int .i64 r2, .int .i64 r3, .int .i64 r4, .int .i64 r5, .bool r6, .bool r7]) ∧ Below w.heap.size w w' := by
 have hu25 := Tryz.underlying25; have hu23 := Tryz.underlying23; have HB := Aside0.mk (Below.refl w.heap.size w); have H : ((span_plus.f k a0_0 a0_1 a1_0 a1_1).bind fun bt710 => ((span_plus.f k a0_2 a0_3 a1_2 a1_3).bind fun bt713 => ((span_common.f k a0_4 a1_4).bind fun t716 => ((span_closed.f k bt710.1 bt710.2.1 bt710.2.2 bt713.1 bt713.2.1 bt713.2.2 t716 a2).bind fun bt717 => (some (bt717.1, bt717.2.1, bt717.2.2.1, bt717.2.2.2.1, bt717.2.2.2.2.1, bt717.2.2.2.2.2.1, bt717.2.2.2.2.2.2)))))) = some (r1, r2, r3, r4, r5, r6, r7) := h; clear h; replace H := Option.bind_eq_some_iff.mp H; obtain ⟨⟨t710, t711, t712⟩, A40, H⟩ := H; (try dsimp only at H); have A4 := Aside0.mk A40; clear A40; replace H := Option.bind_eq_some_iff.mp H; obtain ⟨⟨t713, t714, t715⟩, A50, H⟩ := H; (try dsimp only at H); have A5 := Aside0.mk A50; clear A50; replace H := Option.bind_eq_some_iff.mp H; obtain ⟨t716, A60, H⟩ := H; (try dsimp only at H); have A6 := Aside0.mk A60; clear A60; replace H := Option.bind_eq_some_iff.mp H; obtain ⟨⟨t717, t718, t719, t720, t721, t722, t723⟩, A70, H⟩ := H; (try dsimp only at H); have A7 := Aside0.mk A70; clear A70; simp only [Option.some.injEq, Prod.mk.injEq] at H; obtain ⟨rfl, rfl, rfl, rfl, rfl, rfl, rfl⟩ := H; go_enter Tryz.func78, Tryz.ntmps78; (try go_wp2_with (first | ((with_reducible refine gate_dst (N := 3) rfl ?_); refine bx_ 3 #[.int .i64 a0_0, .int .i64 a0_1, .int .i64 a0_2, .int .i64 a0_3, .int .i64 a0_4, .bool a0_5, .bool a0_6] 25 ?_; intro gb707 hg w8 BK707 hb; have GE707 := hz_ hg HB; replace HB := hs HB hb; clear hb hg) | ((with_reducible refine gate_dst (N := 4) rfl ?_); refine bx_ 4 #[.int .i64 a1_0, .int .i64 a1_1, .int .i64 a1_2, .int .i64 a1_3, .int .i64 a1_4, .bool a1_5, .bool a1_6] 25 ?_; intro gb708 hg w9 BK708 hb; have GE708 := ge_ w hg; have NB707_708 := nlk hg BK707; have NB708_707 := ngk hg BK707; replace BK707 := kb BK707 hb; replace HB := hb_ w hb; clear hb hg) | ((with_reducible refine gate_dst (N := 6) rfl ?_); refine bx_ 6 #[.int .i64 0, .int .i64 0, .int .i64 0, .int .i64 0, .int .i64 0, .bool false, .bool false] 25 ?_; intro gb709 hg w10 BK709 hb; have GE709 := ge_ w hg; have NB707_709 := nlk hg BK707; have NB709_707 := ngk hg BK707; have NB708_709 := nlk hg BK708; have NB709_708 := ngk hg BK708; replace BK707 := kb BK707 hb; replace BK708 := kb BK708 hb; replace HB := hb_ w hb; clear hb hg))); replace BK707 := kd BK707; replace BK708 := kd BK708; replace BK709 := kd BK709; replace HB := Aside0.mk (below_drew1 HB.out); refine start_ (n := 18) (S := fun w' => w'.cell? ⟨gb707, 0, none⟩ = some (.int .i64 a0_0) ∧ w'.cell? ⟨gb707, 1, none⟩ = some (.int .i64 a0_1) ∧ w'.cell? ⟨gb707, 2, none⟩ = some (.int .i64 a0_2) ∧ w'.cell? ⟨gb707, 3, none⟩ = some (.int .i64 a0_3) ∧ w'.cell? ⟨gb707, 4, none⟩ = some (.int .i64 a0_4) ∧ w'.cell? ⟨gb707, 5, none⟩ = some (.bool a0_5) ∧ w'.cell? ⟨gb707, 6, none⟩ = some (.bool a0_6) ∧ w'.cell? ⟨gb708, 0, none⟩ = some (.int .i64 a1_0) ∧ w'.cell? ⟨gb708, 1, none⟩ = some (.int .i64 a1_1) ∧ w'.cell? ⟨gb708, 2, none⟩ = some (.int .i64 a1_2) ∧ w'.cell? ⟨gb708, 3, none⟩ = some (.int .i64 a1_3) ∧ w'.cell? ⟨gb708, 4, none⟩ = some (.int .i64 a1_4) ∧ w'.cell? ⟨gb708, 5, none⟩ = some (.bool a1_5) ∧ w'.cell? ⟨gb708, 6, none⟩ = some (.bool a1_6)) (ds := []) (bA 18 0) (by kernel_rfl) rfl rfl ⟨(blk_cell BK707.out 0).trans rfl, (blk_cell BK707.out 1).trans rfl, (blk_cell BK707.out 2).trans rfl, (blk_cell BK707.out 3).trans rfl, (blk_cell BK707.out 4).trans rfl, (blk_cell BK707.out 5).trans rfl, (blk_cell BK707.out 6).trans rfl, (blk_cell BK708.out 0).trans rfl, (blk_cell BK708.out 1).trans rfl, (blk_cell BK708.out 2).trans rfl, (blk_cell BK708.out 3).trans rfl, (blk_cell BK708.out 4).trans rfl, (blk_cell BK708.out 5).trans rfl, (blk_cell BK708.out 6).trans rfl⟩ (fun hHeld => ?_); refine with_tabW span_sum.tab1 span_sum.bits1 (fun HT_ HW_ => ?_); generalize w10.drew = w11 at BK707 BK708 BK709 HB hHeld ⊢; have hH0 := hHeld; have HBW := hbw w11; refine pure_ (i := 0) (N := some 7) (v := ?_) (a' := ?_) (bA 18 1) rfl rfl (any_of HT_.out (by kernel_rfl)) (fun _ _ _ h => h) (Or.inl ⟨by rfl, ?_⟩) ?_ ?_; rotate_left
 · intro w'; go_simp; with_reducible rfl
 rotate_left
 · simp only [ap]; rfl
 refine pure_ (i := 2) (N := some 9) (v := ?_) (a' := ?_) (bA 18 5) rfl rfl (any_of HT_.out (by kernel_rfl)) (fun _ _ _ h => h) (Or.inl ⟨by rfl, ?_⟩) ?_ ?_; rotate_left
 · intro w'; go_simp; with_reducible rfl
 rotate_left
 · simp only [ap]; rfl
 refine pure_ (i := 5) (N := some 12) (v := ?_) (a' := ?_) (bA 18 37) rfl rfl (any_of HT_.out (by kernel_rfl)) (fun _ _ _ h => h) (Or.inl ⟨by rfl, ?_⟩) ?_ ?_; rotate_left
 · intro w'; go_simp; with_reducible rfl
 rotate_left
 · simp only [ap]; rfl
 refine pure_ (i := 7) (N := some 14) (v := ?_) (a' := ?_) (bA 18 165) rfl rfl (any_of HT_.out (by kernel_rfl)) (fun _ _ _ h => h) (Or.inl ⟨by rfl, ?_⟩) ?_ ?_; rotate_left
 · intro w'; go_simp; with_reducible rfl
 rotate_left
 · simp only [ap]; rfl
 refine pure_ (i := 10) (N := some 17) (v := ?_) (a' := ?_) (bA 18 1189) rfl rfl (any_of HT_.out (by kernel_rfl)) (fun _ _ _ h => h) (Or.inl ⟨by rfl, ?_⟩) ?_ ?_; rotate_left
 · intro w'; go_simp; with_reducible rfl
 rotate_left
 · simp only [ap]; rfl
 refine pure_ (i := 12) (N := some 19) (v := ?_) (a' := ?_) (bA 18 5285) rfl rfl (any_of HT_.out (by kernel_rfl)) (fun _ _ _ h => h) (Or.inl ⟨by rfl, ?_⟩) ?_ ?_; rotate_left
 · intro w'; go_simp; with_reducible rfl
 rotate_left
 · simp only [ap]; rfl
 refine pure_ (i := 15) (N := some 22) (v := ?_) (a' := ?_) (bA 18 38053) rfl rfl (any_of HT_.out (by kernel_rfl)) (fun _ _ _ h => h) (Or.inl ⟨by rfl, ?_⟩) ?_ ?_; rotate_left
 · intro w'; go_simp; with_reducible rfl
 rotate_left
 · simp only [ap]; rfl
 refine take_ (i := 1) (N := some 8) (v := ?_) (a' := ?_) (bA 18 38055) rfl rfl (take_ofW HT_.out HW_.out (by kernel_rfl)) (fun _ _ _ h => h) (Or.inl ⟨by rfl, ?_⟩) hHeld ?_ ?_; rotate_left
 · rintro w' ⟨s0, s1, s2, s3, s4, s5, s6, s7, s8, s9, s10, s11, s12, s13⟩; go_simp; with_reducible rfl
 rotate_left
 · simp only [ap]; rfl
 refine take_ (i := 3) (N := some 10) (v := ?_) (a' := ?_) (bA 18 38063) rfl rfl (take_ofW HT_.out HW_.out (by kernel_rfl)) (fun _ _ _ h => h) (Or.inl ⟨by rfl, ?_⟩) hHeld ?_ ?_; rotate_left
 · rintro w' ⟨s0, s1, s2, s3, s4, s5, s6, s7, s8, s9, s10, s11, s12, s13⟩; go_simp; with_reducible rfl
 rotate_left
 · simp only [ap]; rfl
 refine take_ (i := 6) (N := some 13) (v := ?_) (a' := ?_) (bA 18 38127) rfl rfl (take_ofW HT_.out HW_.out (by kernel_rfl)) (fun _ _ _ h => h) (Or.inl ⟨by rfl, ?_⟩) hHeld ?_ ?_; rotate_left
 · rintro w' ⟨s0, s1, s2, s3, s4, s5, s6, s7, s8, s9, s10, s11, s12, s13⟩; go_simp; with_reducible rfl
 rotate_left
 · simp only [ap]; rfl
 refine take_ (i := 8) (N := some 15) (v := ?_) (a' := ?_) (bA 18 38383) rfl rfl (take_ofW HT_.out HW_.out (by kernel_rfl)) (fun _ _ _ h => h) (Or.inl ⟨by rfl, ?_⟩) hHeld ?_ ?_; rotate_left
 · rintro w' ⟨s0, s1, s2, s3, s4, s5, s6, s7, s8, s9, s10, s11, s12, s13⟩; go_simp; with_reducible rfl
 rotate_left
 · simp only [ap]; rfl
 refine take_ (i := 11) (N := some 18) (v := ?_) (a' := ?_) (bA 18 40431) rfl rfl (take_ofW HT_.out HW_.out (by kernel_rfl)) (fun _ _ _ h => h) (Or.inl ⟨by rfl, ?_⟩) hHeld ?_ ?_; rotate_left
 · rintro w' ⟨s0, s1, s2, s3, s4, s5, s6, s7, s8, s9, s10, s11, s12, s13⟩; go_simp; with_reducible rfl
 rotate_left
 · simp only [ap]; rfl
 refine take_ (i := 13) (N := some 20) (v := ?_) (a' := ?_) (bA 18 48623) rfl rfl (take_ofW HT_.out HW_.out (by kernel_rfl)) (fun _ _ _ h => h) (Or.inl ⟨by rfl, ?_⟩) hHeld ?_ ?_; rotate_left
 · rintro w' ⟨s0, s1, s2, s3, s4, s5, s6, s7, s8, s9, s10, s11, s12, s13⟩; go_simp; with_reducible rfl
 rotate_left
 · simp only [ap]; rfl
 refine one_ (i := 4) (N := some 11) (bA 18 48639) rfl rfl (one_of HT_.out (by kernel_rfl)) (by decide) (fun K hK => ?_); refine goes_ Tryz.func96 (by kernel_rfl) rfl #[.agg #[.int .i64 a0_0, .int .i64 a0_1], .agg #[.int .i64 a1_0, .int .i64 a1_1]] (by rfl) rfl rfl (by (try simp only [mp]); first | done | rfl | (simp only [ld]; rfl)) ?_; (with_reducible refine (span_plus.calls k a0_0 a0_1 a1_0 a1_1 t710 t711 t712 _ A4.out).mono ?_); rintro e w12 ⟨rfl, hb⟩; refine ⟨_, rfl, ?_⟩; replace HBW := hs HBW hb; clear hb; refine hK.out _ _ (hc8 HBW.out (hs6 HBW.out) hH0) (fun hHeld => ?_); clear hK K; refine norm_ (a' := ?_) ?_ ?_; rotate_left
 · (show Act.put _ (some 11) _ = _); simp only [ap]; rfl
 refine one_ (i := 9) (N := some 16) (bA 18 49151) rfl rfl (one_of HT_.out (by kernel_rfl)) (by decide) (fun K hK => ?_); refine goes_ Tryz.func96 (by kernel_rfl) rfl #[.agg #[.int .i64 a0_2, .int .i64 a0_3], .agg #[.int .i64 a1_2, .int .i64 a1_3]] (by rfl) rfl rfl (by (try simp only [mp]); first | done | rfl | (simp only [ld]; rfl)) ?_; (with_reducible refine (span_plus.calls k a0_2 a0_3 a1_2 a1_3 t713 t714 t715 _ A5.out).mono ?_); rintro e w13 ⟨rfl, hb⟩; refine ⟨_, rfl, ?_⟩; replace HBW := hs HBW hb; clear hb; refine hK.out _ _ (hc8 HBW.out (hs6 HBW.out) hH0) (fun hHeld => ?_); clear hK K; refine norm_ (a' := ?_) ?_ ?_; rotate_left
 · (show Act.put _ (some 16) _ = _); simp only [ap]; rfl
 refine one_ (i := 14) (N := some 21) (bA 18 65535) rfl rfl (one_of HT_.out (by kernel_rfl)) (by decide) (fun K hK => ?_); refine goes_ Tryz.func35 (by kernel_rfl) rfl #[.int .i64 a0_4, .int .i64 a1_4] (by rfl) rfl rfl (by (try simp only [mp]); first | done | rfl | (simp only [ld]; rfl)) ?_; (with_reducible refine (span_common.calls k a0_4 a1_4 t716 _ A6.out).mono ?_); rintro e w' ⟨rfl, ⟨nd, rfl⟩⟩; refine ⟨_, rfl, ?_⟩; refine hK.out _ _ (hc8 (bl HBW.out) (hs6 (bl HBW.out)) hH0) (fun hHeld => ?_); clear hK K; refine norm_ (a' := ?_) ?_ ?_; rotate_left
 · (show Act.put _ (some 21) _ = _); simp only [ap]; rfl
 refine one_ (i := 16) (N := some 23) (bA 18 131071) rfl rfl (one_of HT_.out (by kernel_rfl)) (by decide) (fun K hK => ?_); refine goes_ Tryz.func83 (by kernel_rfl) rfl #[.agg #[.int .i64 t710, .int .i64 t711, .bool t712], .agg #[.int .i64 t713, .int .i64 t714, .bool t715], .int .i64 t716, .bool a2] (by rfl) rfl rfl (by (try simp only [mp]); first | done | rfl | (simp only [ld]; rfl)) ?_; (with_reducible refine (span_closed.calls k t710 t711 t712 t713 t714 t715 t716 a2 t717 t718 t719 t720 t721 t722 t723 _ A7.out).mono ?_); rintro e w14 ⟨rfl, hb⟩; refine ⟨_, rfl, ?_⟩; replace HBW := hs HBW hb; clear hb; refine hK.out _ _ (hc8 HBW.out (hs6 HBW.out) hH0) (fun hHeld => ?_); clear hK K; refine norm_ (a' := ?_) ?_ ?_; rotate_left
 · (show Act.put _ (some 23) _ = _); simp only [ap]; rfl
 replace BK707 := kb BK707 HBW.out; replace BK708 := kb BK708 HBW.out; replace BK709 := kb BK709 HBW.out; replace HB := hs HB HBW.out; refine one_ (i := 17) (N := none) (bA 18 262143) rfl rfl (one_of HT_.out (by kernel_rfl)) (by decide) (fun K hK => ?_); have hs15 : w14.cell? ⟨gb709, 0, none⟩ = some (.int .i64 0) := (blk_cell BK709.out 0).trans rfl; have hfs15 := blk_frozen BK709.out 0; have hns15_0 := NB707_709.out; have hns15_1 := NB708_709.out; have hms15_0 := NB709_707.out; have hms15_1 := NB709_708.out; have hs16 : w14.cell? ⟨gb709, 1, none⟩ = some (.int .i64 0) := (blk_cell BK709.out 1).trans rfl; have hfs16 := blk_frozen BK709.out 1; have hns16_0 := NB707_709.out; have hns16_1 := NB708_709.out; have hms16_0 := NB709_707.out; have hms16_1 := NB709_708.out; have hs17 : w14.cell? ⟨gb709, 2, none⟩ = some (.int .i64 0) := (blk_cell BK709.out 2).trans rfl; have hfs17 := blk_frozen BK709.out 2; have hns17_0 := NB707_709.out; have hns17_1 := NB708_709.out; have hms17_0 := NB709_707.out; have hms17_1 := NB709_708.out; have hs18 : w14.cell? ⟨gb709, 3, none⟩ = some (.int .i64 0) := (blk_cell BK709.out 3).trans rfl; have hfs18 := blk_frozen BK709.out 3; have hns18_0 := NB707_709.out; have hns18_1 := NB708_709.out; have hms18_0 := NB709_707.out; have hms18_1 := NB709_708.out; have hs19 : w14.cell? ⟨gb709, 4, none⟩ = some (.int .i64 0) := (blk_cell BK709.out 4).trans rfl; have hfs19 := blk_frozen BK709.out 4; have hns19_0 := NB707_709.out; have hns19_1 := NB708_709.out; have hms19_0 := NB709_707.out; have hms19_1 := NB709_708.out; have hs20 : w14.cell? ⟨gb709, 5, none⟩ = some (.bool false) := (blk_cell BK709.out 5).trans rfl; have hfs20 := blk_frozen BK709.out 5; have hns20_0 := NB707_709.out; have hns20_1 := NB708_709.out; have hms20_0 := NB709_707.out; have hms20_1 := NB709_708.out; have hs21 : w14.cell? ⟨gb709, 6, none⟩ = some (.bool false) := (blk_cell BK709.out 6).trans rfl; have hfs21 := blk_frozen BK709.out 6; have hns21_0 := NB707_709.out; have hns21_1 := NB708_709.out; have hms21_0 := NB709_707.out; have hms21_1 := NB709_708.out; refine skip_ (w1 := ?_) (by rfl) rfl ?_ ?_; rotate_left
 · go_simp; rfl
 refine hK.out _ _ ⟨(cf7 NB707_709.out hHeld.1), (cf7 NB707_709.out hHeld.2.1), (cf7 NB707_709.out hHeld.2.2.1), (cf7 NB707_709.out hHeld.2.2.2.1), (cf7 NB707_709.out hHeld.2.2.2.2.1), (cf7 NB707_709.out hHeld.2.2.2.2.2.1), (cf7 NB707_709.out hHeld.2.2.2.2.2.2.1), (cf7 NB708_709.out hHeld.2.2.2.2.2.2.2.1), (cf7 NB708_709.out hHeld.2.2.2.2.2.2.2.2.1), (cf7 NB708_709.out hHeld.2.2.2.2.2.2.2.2.2.1), (cf7 NB708_709.out hHeld.2.2.2.2.2.2.2.2.2.2.1), (cf7 NB708_709.out hHeld.2.2.2.2.2.2.2.2.2.2.2.1), (cf7 NB708_709.out hHeld.2.2.2.2.2.2.2.2.2.2.2.2.1), (cf7 NB708_709.out hHeld.2.2.2.2.2.2.2.2.2.2.2.2.2)⟩ (fun hHeld => ?_); clear hK K; refine done_ (done_of HT_.out (by kernel_rfl)) ?_; clear HBW hH0; (try go_wp2); refine bodyPost_ret (results_cell_row rfl _ _ gb709 25 #[.int .i64 t717, .int .i64 t718, .int .i64 t719, .int .i64 t720, .int .i64 t721, .bool t722, .bool t723] (0, 0) _ rfl (by exact rq BK709.out (by rfl)) Tryz.underlying25 rfl (by kernel_rfl)) rfl ?_; exact en_
end Go.Proofs.YtlibjgmnookakaaGreatDoor.SSpanSays
