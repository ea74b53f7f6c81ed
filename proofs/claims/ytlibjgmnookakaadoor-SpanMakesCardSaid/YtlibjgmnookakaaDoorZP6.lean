/- Parts of the proof of SpanMakes, joined by program out of this session's own texts. -/
import Derived.Test.YtlibjgmnookakaaDoorZP5
set_option linter.unusedVariables false
set_option linter.unusedSimpArgs false
namespace Go.Proofs.YtlibjgmnookakaaDoor.SSpanMakes
open Go.RowKit Go.Proofs.YtlibjgmnookakaaDoor.Wd.PrintWords Go.Proofs.YtlibjgmnookakaaDoor.Wd.PrintLast Go.Proofs.YtlibjgmnookakaaDoor.Wd.PrintMore
attribute [local go_sem] max2_int min2_int max_two min_two max_three min_three max_four min_four
attribute [local go_sem] max2_int min2_int max_two min_two max_three min_three max_four min_four
attribute [local go_sem] max2_int min2_int max_two min_two max_three min_three max_four min_four
attribute [local go_sem high] eqA23
attribute [local go_sem high] eqA25
theorem span_Text.mono_l : ∀ k, (∀ y0 y1 y2 y3 y4 y5 y6 y7, LeO (span_Text.j0 k y0 y1 y2 y3 y4 y5 y6 y7) (span_Text.j0 (k + 1) y0 y1 y2 y3 y4 y5 y6 y7))
 | 0 => fun _ _ _ _ _ _ _ _ r h => by simp [span_Text.j0] at h
 | k + 1 => by
  have ih0 := span_Text.mono_l k
  ·
   intro y0 y1 y2 y3 y4 y5 y6 y7
   unfold span_Text.j0
   repeat' first
   | (with_reducible exact ih0 _ _ _ _ _ _ _ _)
   | (with_reducible exact span_open.mono _ _ _)
   | (with_reducible exact span_valid.mono _ _ _ _ _ _ _ _)
   | (with_reducible exact LeO.refl _)
   | (with_reducible exact LeO.none _)
   | (with_reducible refine LeO.ite ?_ ?_)
   | (with_reducible refine LeO.bind ?_ (fun _ => ?_))
   | exact ih0 _ _ _ _ _ _ _ _
   | exact span_open.mono _ _ _
   | exact span_valid.mono _ _ _ _ _ _ _ _
   | exact LeO.none _
   | refine LeO.ite ?_ ?_
   | refine LeO.bind ?_ (fun _ => ?_)
theorem span_Text.mono : ∀ a0 a1 a2 a3 a4 a5 a6 k, LeO (span_Text.f k a0 a1 a2 a3 a4 a5 a6) (span_Text.f (k + 1) a0 a1 a2 a3 a4 a5 a6) := by
 intro a0 a1 a2 a3 a4 a5 a6 k
 have ih0 := span_Text.mono_l k
 unfold span_Text.f
 repeat' first
   | (with_reducible exact ih0 _ _ _ _ _ _ _ _)
   | (with_reducible exact span_open.mono _ _ _)
   | (with_reducible exact span_valid.mono _ _ _ _ _ _ _ _)
   | (with_reducible exact LeO.refl _)
   | (with_reducible exact LeO.none _)
   | (with_reducible refine LeO.ite ?_ ?_)
   | (with_reducible refine LeO.bind ?_ (fun _ => ?_))
   | exact ih0 _ _ _ _ _ _ _ _
   | exact span_open.mono _ _ _
   | exact span_valid.mono _ _ _ _ _ _ _ _
   | exact LeO.none _
   | refine LeO.ite ?_ ?_
   | refine LeO.bind ?_ (fun _ => ?_)
def span_Text.T7 : Bool × List (List Nat × List Nat) := (true, [([], []), ([0], [0]), ([1], [1]), ([2], [2]), ([3], [3]), ([], []), ([5], [5]), ([6, 2], [6]), ([4, 7], [4, 7]), ([8], [8]), ([], []), ([10], [10]), ([11, 7], [11]), ([9, 12], [9, 12]), ([], []), ([13, 14], [13, 14]), ([15, 12, 0, 1, 2, 3, 4, 5, 6, 7, 8, 9, 10, 11, 12, 13, 14, 15], [15])])
def span_Text.B7 : List Nat := [0, 1, 3, 7, 15, 0, 32, 103, 255, 511, 0, 1024, 3303, 8191, 0, 32767, 65535]
theorem span_Text.tab7 : rtab .any (opsOf Tryd.f23 7) = span_Text.T7 := by kernel_rfl
theorem span_Text.bits7 : waitsOk span_Text.T7.2 span_Text.B7 = true := by kernel_rfl
set_option maxHeartbeats 8000000 in
set_option maxRecDepth 100000 in
theorem span_Text.calls (k : Nat) (a0_0 : Int) (a0_1 : Int) (a0_2 : Int) (a0_3 : Int) (a0_4 : Int) (a0_5 : Bool) (a0_6 : Bool) (r : ByteArray) (w : World) (h : span_Text.f k a0_0 a0_1 a0_2 a0_3 a0_4 a0_5 a0_6 = some r) :
  Calls Tryd.prog 23 #[.agg #[.int .i64 a0_0, .int .i64 a0_1, .int .i64 a0_2, .int .i64 a0_3, .int .i64 a0_4, .bool a0_5, .bool a0_6]] w fun e w' => e = .returned (.string r) ∧ Below w.heap.size w w' := by
 have hu25 := Tryd.underlying25; have hu23 := Tryd.underlying23; have HB := Aside0.mk (Below.refl w.heap.size w); have H : ((span_valid.f k a0_0 a0_1 a0_2 a0_3 a0_4 a0_5 a0_6).bind fun bt642 => (if bt642.2.2.2.2.2.1 = true then (span_Text.j0 k (⟨#[32, 110, 111, 110, 101]⟩ : ByteArray) bt642.1 bt642.2.1 bt642.2.2.1 bt642.2.2.2.1 bt642.2.2.2.2.1 bt642.2.2.2.2.2.1 bt642.2.2.2.2.2.2) else (span_Text.j0 k (⟨#[]⟩ : ByteArray) bt642.1 bt642.2.1 bt642.2.2.1 bt642.2.2.2.1 bt642.2.2.2.2.1 bt642.2.2.2.2.2.1 bt642.2.2.2.2.2.2))) = some r := h; clear h; replace H := Option.bind_eq_some_iff.mp H; obtain ⟨⟨t642, t643, t644, t645, t646, t647, t648⟩, A20, H⟩ := H; (try dsimp only at H); have A2 := Aside0.mk A20; clear A20; have HC3 := Aside0.mk H; clear H; go_enter Tryd.func23, Tryd.ntmps23; go_upto_if 7 with (first | ((with_reducible refine gate_dst (N := 1) rfl ?_); refine box_event ?hg (N := 1) ?hd (cs := #[.int .i64 a0_0, .int .i64 a0_1, .int .i64 a0_2, .int .i64 a0_3, .int .i64 a0_4, .bool a0_5, .bool a0_6]) (t := 25) ?hr ?_; (case hd => rfl); (case hg => rfl); (case hr => first | (go_simp; done) | (go_simp; rfl)); intro gb641 hg w4 hbox hb; have BK641 := Aside0.mk (hbox); have GW641 := hz_ hg HB; have GE641 := hz_ hg HB; replace HB := hs HB hb; clear hb hbox hg; obtain ⟨hcz5_0, hcz5_1, hcz5_2, hcz5_3, hcz5_4, hcz5_5, hcz5_6⟩ := bc7 BK641.out; obtain ⟨hfz5_0, hfz5_1, hfz5_2, hfz5_3, hfz5_4, hfz5_5, hfz5_6⟩ := bf7 BK641.out) | ((with_reducible refine gate_callee (f := 24) rfl ?_); refine goesL_ (some 5) rfl rfl Tryd.func24 (by kernel_rfl) rfl #[.agg #[.int .i64 a0_0, .int .i64 a0_1, .int .i64 a0_2, .int .i64 a0_3, .int .i64 a0_4, .bool a0_5, .bool a0_6]] rfl (by (try simp only [mp]); first | done | rfl | (simp only [ld]; rfl)) ?_; (with_reducible refine (span_valid.calls k a0_0 a0_1 a0_2 a0_3 a0_4 a0_5 a0_6 t642 t643 t644 t645 t646 t647 t648 _ A2.out).mono ?_); rintro e w6 ⟨rfl, hb⟩; refine ⟨_, rfl, ?_⟩; replace BK641 := kb BK641 hb; replace HB := Aside0.mk (below_step (by repeat first | (with_reducible exact HB.out) | refine bl1 ?_ | (with_reducible refine bset ?_ ‹_›) | exact HB.out) hb); (try clear hb); (try clear hb2); (try clear hk); (try clear hi); obtain ⟨hcz7_0, hcz7_1, hcz7_2, hcz7_3, hcz7_4, hcz7_5, hcz7_6⟩ := bc7 BK641.out; obtain ⟨hfz7_0, hfz7_1, hfz7_2, hfz7_3, hfz7_4, hfz7_5, hfz7_6⟩ := bf7 BK641.out)); (try simp only [Act.put, List.setIfInBounds_toArray, List.set_cons_zero, List.set_cons_succ])
 go_cut [3] (fun v3 wc => ∃ (kq : Nat) (x3_2 : ByteArray), v3 = .string x3_2 ∧ Aside0 (span_Text.j0 kq x3_2 t642 t643 t644 t645 t646 t647 t648 = some r) ∧ Aside0 (kq ≤ k) ∧ Aside0 (wc.heap[gb641]? = some (.cells #[.int .i64 t642, .int .i64 t643, .int .i64 t644, .int .i64 t645, .int .i64 t646, .bool t647, .bool t648] 25 (0, 0))) ∧ Aside0 (Below w.heap.size w wc))
 case first =>
  have H := HC3.out; clear HC3; by_cases c8 : t647 = true
  ·
   subst c8; rw [if_pos rfl] at H; have H' := Aside0.mk H; clear H; go_wp2; go_meet
   case rel => exact ⟨_, ((⟨#[32, 110, 111, 110, 101]⟩ : ByteArray)), (by first | rfl | (simp; done) | (simp [*]; done)), H', ⟨by first | omega | exact Nat.le_refl _⟩, ⟨by exact rq BK641.out (by rfl)⟩, ⟨by repeat first | (with_reducible exact HB.out) | (with_reducible refine bset ?_ ‹_›) | refine bl1 ?_ | exact HB.out⟩⟩
  ·
   replace c8 := Bool.eq_false_iff.mpr c8; subst c8; rw [if_neg (show ¬ (false = true) by decide)] at H; have H' := Aside0.mk H; clear H; go_wp2; go_meet
   case rel => exact ⟨_, ((⟨#[]⟩ : ByteArray)), (by first | rfl | (simp; done) | (simp [*]; done)), H', ⟨by first | omega | exact Nat.le_refl _⟩, ⟨by exact rq BK641.out (by rfl)⟩, ⟨by repeat first | (with_reducible exact HB.out) | (with_reducible refine bset ?_ ‹_›) | refine bl1 ?_ | exact HB.out⟩⟩
 case rest =>
  clear HC3; (try clear c2); (try clear p2); (try clear c8); (try clear hcz5_0); (try clear hcz5_1); (try clear hcz5_2); (try clear hcz5_3); (try clear hcz5_4); (try clear hcz5_5); (try clear hcz5_6); (try clear hcz7_0); (try clear hcz7_1); (try clear hcz7_2); (try clear hcz7_3); (try clear hcz7_4); (try clear hcz7_5); (try clear hcz7_6); (try clear hfz5_0); (try clear hfz5_1); (try clear hfz5_2); (try clear hfz5_3); (try clear hfz5_4); (try clear hfz5_5); (try clear hfz5_6); (try clear hfz7_0); (try clear hfz7_1); (try clear hfz7_2); (try clear hfz7_3); (try clear hfz7_4); (try clear hfz7_5); (try clear hfz7_6); obtain ⟨kq, x3_2, rfl, HA, HJ2, BK641, HB⟩ := hcut; cases kq with
  | zero => exact absurd HA.out (by simp [span_Text.j0])
  | succ kj2 =>
   have H := HA.out; clear HA; simp only [span_Text.j0] at H; by_cases c9 : t648 = true
   ·
    subst c9; rw [if_pos rfl] at H; by_cases c10 : 2 + x3_2.size ≤ 9223372036854775807
    · rw [if_pos c10] at H; have c10b0 := eq_true c10; have c10b1 : decide (2 + x3_2.size ≤ 9223372036854775807) = true := decide_eq_true c10; (try have c10b2 : (9223372036854775807 < 2 + x3_2.size) = False := eq_false (Nat.not_lt.2 c10)); obtain rfl := Option.some.inj H; obtain ⟨hcz11_0, hcz11_1, hcz11_2, hcz11_3, hcz11_4, hcz11_5, hcz11_6⟩ := bc7 BK641.out; obtain ⟨hfz11_0, hfz11_1, hfz11_2, hfz11_3, hfz11_4, hfz11_5, hfz11_6⟩ := bf7 BK641.out; go_wp2; go_ret; exact ⟨by first | rfl | (simp [errW_none, errW_some] <;> rfl) | (simp [*, errW_none, errW_some] <;> rfl), by repeat first | (with_reducible exact HB.out) | (with_reducible refine bset ?_ ‹_›) | refine bl1 ?_ | exact HB.out⟩
    · rw [if_neg c10] at H; exact absurd H (by simp)
   ·
    replace c9 := Bool.eq_false_iff.mpr c9; subst c9; rw [if_neg (show ¬ (false = true) by decide)] at H; replace H := Option.bind_eq_some_iff.mp H; obtain ⟨t649, A120, H⟩ := H; (try dsimp only at H); have A12 := Aside0.mk A120; clear A120; by_cases c13 : 1 + t649.size ≤ 9223372036854775807
    ·
     rw [if_pos c13] at H; have c13b0 := eq_true c13; have c13b1 : decide (1 + t649.size ≤ 9223372036854775807) = true := decide_eq_true c13; (try have c13b2 : (9223372036854775807 < 1 + t649.size) = False := eq_false (Nat.not_lt.2 c13)); by_cases c14 : ((⟨#[91]⟩ : ByteArray) ++ t649).size + 1 ≤ 9223372036854775807
     ·
      rw [if_pos c14] at H; have c14b0 := eq_true c14; have c14s : (9223372036854775807 < 1 + t649.size + 1) = False := eq_false (by have h_ := c14; simp only [ByteArray.size_append] at h_; have e1 : (⟨#[91]⟩ : ByteArray).size = 1 := rfl; have e2 : (⟨#[44]⟩ : ByteArray).size = 1 := rfl; have e3 : (⟨#[93, 47]⟩ : ByteArray).size = 2 := rfl; omega); have c14b1 : decide (((⟨#[91]⟩ : ByteArray) ++ t649).size + 1 ≤ 9223372036854775807) = true := decide_eq_true c14; (try have c14b2 : (9223372036854775807 < ((⟨#[91]⟩ : ByteArray) ++ t649).size + 1) = False := eq_false (Nat.not_lt.2 c14)); replace H := Option.bind_eq_some_iff.mp H; obtain ⟨t650, A150, H⟩ := H; (try dsimp only at H); have A15 := Aside0.mk A150; clear A150; by_cases c16 : (((⟨#[91]⟩ : ByteArray) ++ t649) ++ (⟨#[44]⟩ : ByteArray)).size + t650.size ≤ 9223372036854775807
      ·
       rw [if_pos c16] at H; have c16b0 := eq_true c16; have c16s : (9223372036854775807 < 1 + t649.size + 1 + t650.size) = False := eq_false (by have h_ := c16; simp only [ByteArray.size_append] at h_; have e1 : (⟨#[91]⟩ : ByteArray).size = 1 := rfl; have e2 : (⟨#[44]⟩ : ByteArray).size = 1 := rfl; have e3 : (⟨#[93, 47]⟩ : ByteArray).size = 2 := rfl; omega); have c16b1 : decide ((((⟨#[91]⟩ : ByteArray) ++ t649) ++ (⟨#[44]⟩ : ByteArray)).size + t650.size ≤ 9223372036854775807) = true := decide_eq_true c16; (try have c16b2 : (9223372036854775807 < (((⟨#[91]⟩ : ByteArray) ++ t649) ++ (⟨#[44]⟩ : ByteArray)).size + t650.size) = False := eq_false (Nat.not_lt.2 c16)); by_cases c17 : ((((⟨#[91]⟩ : ByteArray) ++ t649) ++ (⟨#[44]⟩ : ByteArray)) ++ t650).size + 2 ≤ 9223372036854775807
       ·
        rw [if_pos c17] at H; have c17b0 := eq_true c17; have c17s : (9223372036854775807 < 1 + t649.size + 1 + t650.size + 2) = False := eq_false (by have h_ := c17; simp only [ByteArray.size_append] at h_; have e1 : (⟨#[91]⟩ : ByteArray).size = 1 := rfl; have e2 : (⟨#[44]⟩ : ByteArray).size = 1 := rfl; have e3 : (⟨#[93, 47]⟩ : ByteArray).size = 2 := rfl; omega); have c17b1 : decide (((((⟨#[91]⟩ : ByteArray) ++ t649) ++ (⟨#[44]⟩ : ByteArray)) ++ t650).size + 2 ≤ 9223372036854775807) = true := decide_eq_true c17; (try have c17b2 : (9223372036854775807 < ((((⟨#[91]⟩ : ByteArray) ++ t649) ++ (⟨#[44]⟩ : ByteArray)) ++ t650).size + 2) = False := eq_false (Nat.not_lt.2 c17)); replace H := Option.bind_eq_some_iff.mp H; obtain ⟨t651, A180, H⟩ := H; (try dsimp only at H); have A18 := Aside0.mk A180; clear A180; by_cases c19 : (((((⟨#[91]⟩ : ByteArray) ++ t649) ++ (⟨#[44]⟩ : ByteArray)) ++ t650) ++ (⟨#[93, 47]⟩ : ByteArray)).size + t651.size ≤ 9223372036854775807
        ·
         rw [if_pos c19] at H; have c19b0 := eq_true c19; have c19s : (9223372036854775807 < 1 + t649.size + 1 + t650.size + 2 + t651.size) = False := eq_false (by have h_ := c19; simp only [ByteArray.size_append] at h_; have e1 : (⟨#[91]⟩ : ByteArray).size = 1 := rfl; have e2 : (⟨#[44]⟩ : ByteArray).size = 1 := rfl; have e3 : (⟨#[93, 47]⟩ : ByteArray).size = 2 := rfl; omega); have c19b1 : decide ((((((⟨#[91]⟩ : ByteArray) ++ t649) ++ (⟨#[44]⟩ : ByteArray)) ++ t650) ++ (⟨#[93, 47]⟩ : ByteArray)).size + t651.size ≤ 9223372036854775807) = true := decide_eq_true c19; (try have c19b2 : (9223372036854775807 < (((((⟨#[91]⟩ : ByteArray) ++ t649) ++ (⟨#[44]⟩ : ByteArray)) ++ t650) ++ (⟨#[93, 47]⟩ : ByteArray)).size + t651.size) = False := eq_false (Nat.not_lt.2 c19)); by_cases c20 : ((((((⟨#[91]⟩ : ByteArray) ++ t649) ++ (⟨#[44]⟩ : ByteArray)) ++ t650) ++ (⟨#[93, 47]⟩ : ByteArray)) ++ t651).size + x3_2.size ≤ 9223372036854775807
         ·
          rw [if_pos c20] at H; have c20b0 := eq_true c20; have c20s : (9223372036854775807 < 1 + t649.size + 1 + t650.size + 2 + t651.size + x3_2.size) = False := eq_false (by have h_ := c20; simp only [ByteArray.size_append] at h_; have e1 : (⟨#[91]⟩ : ByteArray).size = 1 := rfl; have e2 : (⟨#[44]⟩ : ByteArray).size = 1 := rfl; have e3 : (⟨#[93, 47]⟩ : ByteArray).size = 2 := rfl; omega); have c20b1 : decide (((((((⟨#[91]⟩ : ByteArray) ++ t649) ++ (⟨#[44]⟩ : ByteArray)) ++ t650) ++ (⟨#[93, 47]⟩ : ByteArray)) ++ t651).size + x3_2.size ≤ 9223372036854775807) = true := decide_eq_true c20; (try have c20b2 : (9223372036854775807 < ((((((⟨#[91]⟩ : ByteArray) ++ t649) ++ (⟨#[44]⟩ : ByteArray)) ++ t650) ++ (⟨#[93, 47]⟩ : ByteArray)) ++ t651).size + x3_2.size) = False := eq_false (Nat.not_lt.2 c20)); obtain rfl := Option.some.inj H; obtain ⟨hcz21_0, hcz21_1, hcz21_2, hcz21_3, hcz21_4, hcz21_5, hcz21_6⟩ := bc7 BK641.out; obtain ⟨hfz21_0, hfz21_1, hfz21_2, hfz21_3, hfz21_4, hfz21_5, hfz21_6⟩ := bf7 BK641.out; (try go_wp2); replace BK641 := kd BK641; replace HB := Aside0.mk (below_drew1 HB.out); refine start_ (n := 17) (S := fun w' => w'.cell? ⟨gb641, 0, none⟩ = some (.int .i64 t642) ∧ w'.cell? ⟨gb641, 1, none⟩ = some (.int .i64 t643) ∧ w'.cell? ⟨gb641, 2, none⟩ = some (.int .i64 t644) ∧ w'.cell? ⟨gb641, 3, none⟩ = some (.int .i64 t645) ∧ w'.cell? ⟨gb641, 4, none⟩ = some (.int .i64 t646) ∧ w'.cell? ⟨gb641, 5, none⟩ = some (.bool t647) ∧ w'.cell? ⟨gb641, 6, none⟩ = some (.bool false)) (ds := []) (bA 17 0) (by kernel_rfl) rfl rfl ⟨(blk_cell BK641.out 0).trans rfl, (blk_cell BK641.out 1).trans rfl, (blk_cell BK641.out 2).trans rfl, (blk_cell BK641.out 3).trans rfl, (blk_cell BK641.out 4).trans rfl, (blk_cell BK641.out 5).trans rfl, (blk_cell BK641.out 6).trans rfl⟩ (fun hHeld => ?_); refine with_tabW span_Text.tab7 span_Text.bits7 (fun HT_ HW_ => ?_); generalize wc.drew = w22 at BK641 HB hHeld ⊢; have hH0 := hHeld; have HBW := hbw w22; refine pure_ (i := 0) (N := some 12) (v := ?_) (a' := ?_) (bA 17 1) rfl rfl (any_of HT_.out (by kernel_rfl)) (fun _ _ _ h => h) (Or.inl ⟨by rfl, ?_⟩) ?_ ?_; rotate_left
          · intro w'; go_simp; with_reducible rfl
          rotate_left
          · simp only [ap]; rfl
          refine pure_ (i := 5) (N := some 17) (v := ?_) (a' := ?_) (bA 17 33) rfl rfl (any_of HT_.out (by kernel_rfl)) (fun _ _ _ h => h) (Or.inl ⟨by rfl, ?_⟩) ?_ ?_; rotate_left
          · intro w'; go_simp; with_reducible rfl
          rotate_left
          · simp only [ap]; rfl
          refine pure_ (i := 10) (N := some 22) (v := ?_) (a' := ?_) (bA 17 1057) rfl rfl (any_of HT_.out (by kernel_rfl)) (fun _ _ _ h => h) (Or.inl ⟨by rfl, ?_⟩) ?_ ?_; rotate_left
          · intro w'; go_simp; with_reducible rfl
          rotate_left
          · simp only [ap]; rfl
          refine pure_ (i := 14) (N := some 26) (v := ?_) (a' := ?_) (bA 17 17441) rfl rfl (any_of HT_.out (by kernel_rfl)) (fun _ _ _ h => h) (Or.inl ⟨by rfl, ?_⟩) ?_ ?_; rotate_left
          · intro w'; go_simp; with_reducible rfl
          rotate_left
          · simp only [ap]; rfl
          refine take_ (i := 1) (N := some 13) (v := ?_) (a' := ?_) (bA 17 17443) rfl rfl (take_ofW HT_.out HW_.out (by kernel_rfl)) (fun _ _ _ h => h) (Or.inl ⟨by rfl, ?_⟩) hHeld ?_ ?_; rotate_left
          · rintro w' ⟨s0, s1, s2, s3, s4, s5, s6⟩; go_simp; with_reducible rfl
          rotate_left
          · simp only [ap]; rfl
          refine take_ (i := 6) (N := some 18) (v := ?_) (a' := ?_) (bA 17 17507) rfl rfl (take_ofW HT_.out HW_.out (by kernel_rfl)) (fun _ _ _ h => h) (Or.inl ⟨by rfl, ?_⟩) hHeld ?_ ?_; rotate_left
          · rintro w' ⟨s0, s1, s2, s3, s4, s5, s6⟩; go_simp; with_reducible rfl
          rotate_left
          · simp only [ap]; rfl
          refine take_ (i := 11) (N := some 23) (v := ?_) (a' := ?_) (bA 17 19555) rfl rfl (take_ofW HT_.out HW_.out (by kernel_rfl)) (fun _ _ _ h => h) (Or.inl ⟨by rfl, ?_⟩) hHeld ?_ ?_; rotate_left
          · rintro w' ⟨s0, s1, s2, s3, s4, s5, s6⟩; go_simp; with_reducible rfl
          rotate_left
          · simp only [ap]; rfl
          refine one_ (i := 2) (N := some 14) (bA 17 19559) rfl rfl (one_of HT_.out (by kernel_rfl)) (by decide) (fun K hK => ?_); refine goes_ Tryd.func40 (by kernel_rfl) rfl #[.agg #[.int .i64 t642, .int .i64 t643]] (by rfl) rfl rfl (by (try simp only [mp]); first | done | rfl | (simp only [ld]; rfl)) ?_; (with_reducible refine (span_open.calls kj2 t642 t643 t649 _ A12.out).mono ?_); rintro e w23 ⟨rfl, hb⟩; refine ⟨_, rfl, ?_⟩; replace HBW := hs HBW hb; clear hb; refine hK.out _ _ (hs7 HBW.out hH0) (fun hHeld => ?_); clear hK K; refine norm_ (a' := ?_) ?_ ?_; rotate_left
          · (show Act.put _ (some 14) _ = _); simp only [ap]; rfl
          refine pure_ (i := 3) (N := some 15) (v := ?_) (a' := ?_) (bA 17 19567) rfl rfl (any_of HT_.out (by kernel_rfl)) (fun _ _ _ h => h) (Or.inl ⟨by rfl, ?_⟩) ?_ ?_; rotate_left
          · intro w'; go_simp; with_reducible rfl
          rotate_left
          · simp only [ap]; rfl
          refine pure_ (i := 4) (N := some 16) (v := ?_) (a' := ?_) (bA 17 19583) rfl rfl (any_of HT_.out (by kernel_rfl)) (fun _ _ _ h => h) (Or.inl ⟨by rfl, ?_⟩) ?_ ?_; rotate_left
          · intro w'; go_simp; with_reducible rfl
          rotate_left
          · simp only [ap]; rfl
          refine one_ (i := 7) (N := some 19) (bA 17 19711) rfl rfl (one_of HT_.out (by kernel_rfl)) (by decide) (fun K hK => ?_); refine goes_ Tryd.func40 (by kernel_rfl) rfl #[.agg #[.int .i64 t644, .int .i64 t645]] (by rfl) rfl rfl (by (try simp only [mp]); first | done | rfl | (simp only [ld]; rfl)) ?_; (with_reducible refine (span_open.calls kj2 t644 t645 t650 _ A15.out).mono ?_); rintro e w24 ⟨rfl, hb⟩; refine ⟨_, rfl, ?_⟩; replace HBW := hs HBW hb; clear hb; refine hK.out _ _ (hs7 HBW.out hH0) (fun hHeld => ?_); clear hK K; refine norm_ (a' := ?_) ?_ ?_; rotate_left
          · (show Act.put _ (some 19) _ = _); simp only [ap]; rfl
          refine pure_ (i := 8) (N := some 20) (v := ?_) (a' := ?_) (bA 17 19967) rfl rfl (any_of HT_.out (by kernel_rfl)) (fun _ _ _ h => h) (Or.inl ⟨by rfl, ?_⟩) ?_ ?_; rotate_left
          · intro w'; go_simp; with_reducible rfl
          rotate_left
          · simp only [ap]; rfl
          refine pure_ (i := 9) (N := some 21) (v := ?_) (a' := ?_) (bA 17 20479) rfl rfl (any_of HT_.out (by kernel_rfl)) (fun _ _ _ h => h) (Or.inl ⟨by rfl, ?_⟩) ?_ ?_; rotate_left
          · intro w'; go_simp; with_reducible rfl
          rotate_left
          · simp only [ap]; rfl
          refine one_ (i := 12) (N := some 24) (bA 17 24575) rfl rfl (one_of HT_.out (by kernel_rfl)) (by decide) (fun K hK => ?_); refine goes_ Tryd.func41 (by kernel_rfl) rfl #[.int .i64 t646, .int .i64 10] (by rfl) rfl rfl (by (try simp only [mp]); first | done | rfl | (simp only [ld]; rfl)) ?_; (with_reducible refine (strconv_FormatInt_41.calls t646 10 t651 _ A18.out).mono ?_); rintro e w' ⟨rfl, ⟨nd, rfl⟩⟩; refine ⟨_, rfl, ?_⟩; refine hK.out _ _ (hs7 (bl HBW.out) hH0) (fun hHeld => ?_); clear hK K; refine norm_ (a' := ?_) ?_ ?_; rotate_left
          · (show Act.put _ (some 24) _ = _); simp only [ap]; rfl
          refine pure_ (i := 13) (N := some 25) (v := ?_) (a' := ?_) (bA 17 32767) rfl rfl (any_of HT_.out (by kernel_rfl)) (fun _ _ _ h => h) (Or.inl ⟨by rfl, ?_⟩) ?_ ?_; rotate_left
          · intro w'; go_simp; with_reducible rfl
          rotate_left
          · simp only [ap]; rfl
          refine pure_ (i := 15) (N := some 27) (v := ?_) (a' := ?_) (bA 17 65535) rfl rfl (any_of HT_.out (by kernel_rfl)) (fun _ _ _ h => h) (Or.inl ⟨by rfl, ?_⟩) ?_ ?_; rotate_left
          · intro w'; go_simp; with_reducible rfl
          rotate_left
          · simp only [ap]; rfl
          refine pure_ (i := 16) (N := some 2) (v := ?_) (a' := ?_) (bA 17 131071) rfl rfl (any_of HT_.out (by kernel_rfl)) (fun _ _ _ h => h) (Or.inl ⟨by rfl, ?_⟩) ?_ ?_; rotate_left
          · intro w'; go_simp; with_reducible rfl
          rotate_left
          · simp only [ap]; rfl
          replace BK641 := kb BK641 HBW.out; replace HB := hs HB HBW.out; refine done_ (done_of HT_.out (by kernel_rfl)) ?_; clear HBW hH0; (try go_wp2); go_ret; exact ⟨by first | rfl | (simp [errW_none, errW_some] <;> rfl) | (simp [*, errW_none, errW_some] <;> rfl), by repeat first | (with_reducible exact HB.out) | (with_reducible refine bset ?_ ‹_›) | refine bl1 ?_ | exact HB.out⟩
         · rw [if_neg c20] at H; exact absurd H (by simp)
        · rw [if_neg c19] at H; exact absurd H (by simp)
       · rw [if_neg c17] at H; exact absurd H (by simp)
      · rw [if_neg c16] at H; exact absurd H (by simp)
     · rw [if_neg c14] at H; exact absurd H (by simp)
    · rw [if_neg c13] at H; exact absurd H (by simp)
def serinettelaw03_awake.f (k : Nat)  : Option (Bool) := (serinetteref01_Whole.f k 0).bind fun bt652 => ((serinetteref01_Whole.f k 1).bind fun bt654 => ((span_Make.f k bt652.1 bt652.2 bt654.1 bt654.2 2).bind fun bt656 => ((serinetteref01_Whole.f k 0).bind fun bt664 => ((serinetteref01_Whole.f k 1).bind fun bt666 => ((span_Make.f k bt664.1 bt664.2 bt666.1 bt666.2 3).bind fun bt668 => ((span_Op.f k (⟨#[97, 100, 100]⟩ : ByteArray) (([(⟨(⟨bt656.1, bt656.2.1⟩ : S23), (⟨bt656.2.2.1, bt656.2.2.2.1⟩ : S23), bt656.2.2.2.2.1, bt656.2.2.2.2.2.1, bt656.2.2.2.2.2.2⟩ : S25), (⟨(⟨bt668.1, bt668.2.1⟩ : S23), (⟨bt668.2.2.1, bt668.2.2.2.1⟩ : S23), bt668.2.2.2.2.1, bt668.2.2.2.2.2.1, bt668.2.2.2.2.2.2⟩ : S25)] : List (S25)))).bind fun bt679 => (if bt679.2.2.2.2.2.2.2 = 0 then ((span_Text.f k bt679.1 bt679.2.1 bt679.2.2.1 bt679.2.2.2.1 bt679.2.2.2.2.1 bt679.2.2.2.2.2.1 bt679.2.2.2.2.2.2.1).bind fun t688 => (if t688.toList = ([91, 48, 44, 50, 93, 47, 54] : List UInt8) then ((span_Has.f k bt679.1 bt679.2.1 bt679.2.2.1 bt679.2.2.2.1 bt679.2.2.2.2.1 bt679.2.2.2.2.2.1 bt679.2.2.2.2.2.2.1 5 6).bind fun t689 => (if t689 = true then ((span_Has.f k bt679.1 bt679.2.1 bt679.2.2.1 bt679.2.2.2.1 bt679.2.2.2.2.1 bt679.2.2.2.2.2.1 bt679.2.2.2.2.2.2.1 5 4).bind fun t690 => (some (!t690))) else (some false))) else (some false))) else (some false))))))))
theorem serinettelaw03_awake.mono : ∀ k, LeO (serinettelaw03_awake.f k ) (serinettelaw03_awake.f (k + 1) ) := by
 intro  k
 unfold serinettelaw03_awake.f
 repeat' first
   | (with_reducible exact serinetteref01_Whole.mono _ _)
   | (with_reducible exact span_Has.mono _ _ _ _ _ _ _ _ _ _)
   | (with_reducible exact span_Make.mono _ _ _ _ _ _)
   | (with_reducible exact span_Op.mono _ _ _)
   | (with_reducible exact span_Text.mono _ _ _ _ _ _ _ _)
   | (with_reducible exact LeO.refl _)
   | (with_reducible exact LeO.none _)
   | (with_reducible refine LeO.ite ?_ ?_)
   | (with_reducible refine LeO.bind ?_ (fun _ => ?_))
   | exact serinetteref01_Whole.mono _ _
   | exact span_Has.mono _ _ _ _ _ _ _ _ _ _
   | exact span_Make.mono _ _ _ _ _ _
   | exact span_Op.mono _ _ _
   | exact span_Text.mono _ _ _ _ _ _ _ _
   | exact LeO.none _
   | refine LeO.ite ?_ ?_
   | refine LeO.bind ?_ (fun _ => ?_)
set_option maxHeartbeats 8000000 in
set_option maxRecDepth 100000 in
theorem serinettelaw03_awake.calls (k : Nat)  (r : Bool) (w : World) (h : serinettelaw03_awake.f k  = some r) :
  Calls Tryd.prog 7 #[] w fun e w' => e = .returned (.bool r) ∧ Below w.heap.size w w' := by
 have hu25 := Tryd.underlying25; have hu23 := Tryd.underlying23; have HB := Aside0.mk (Below.refl w.heap.size w); have H : ((serinetteref01_Whole.f k 0).bind fun bt652 => ((serinetteref01_Whole.f k 1).bind fun bt654 => ((span_Make.f k bt652.1 bt652.2 bt654.1 bt654.2 2).bind fun bt656 => ((serinetteref01_Whole.f k 0).bind fun bt664 => ((serinetteref01_Whole.f k 1).bind fun bt666 => ((span_Make.f k bt664.1 bt664.2 bt666.1 bt666.2 3).bind fun bt668 => ((span_Op.f k (⟨#[97, 100, 100]⟩ : ByteArray) (([(⟨(⟨bt656.1, bt656.2.1⟩ : S23), (⟨bt656.2.2.1, bt656.2.2.2.1⟩ : S23), bt656.2.2.2.2.1, bt656.2.2.2.2.2.1, bt656.2.2.2.2.2.2⟩ : S25), (⟨(⟨bt668.1, bt668.2.1⟩ : S23), (⟨bt668.2.2.1, bt668.2.2.2.1⟩ : S23), bt668.2.2.2.2.1, bt668.2.2.2.2.2.1, bt668.2.2.2.2.2.2⟩ : S25)] : List (S25)))).bind fun bt679 => (if bt679.2.2.2.2.2.2.2 = 0 then ((span_Text.f k bt679.1 bt679.2.1 bt679.2.2.1 bt679.2.2.2.1 bt679.2.2.2.2.1 bt679.2.2.2.2.2.1 bt679.2.2.2.2.2.2.1).bind fun t688 => (if t688.toList = ([91, 48, 44, 50, 93, 47, 54] : List UInt8) then ((span_Has.f k bt679.1 bt679.2.1 bt679.2.2.1 bt679.2.2.2.1 bt679.2.2.2.2.1 bt679.2.2.2.2.2.1 bt679.2.2.2.2.2.2.1 5 6).bind fun t689 => (if t689 = true then ((span_Has.f k bt679.1 bt679.2.1 bt679.2.2.1 bt679.2.2.2.1 bt679.2.2.2.2.1 bt679.2.2.2.2.2.1 bt679.2.2.2.2.2.2.1 5 4).bind fun t690 => (some (!t690))) else (some false))) else (some false))) else (some false))))))))) = some r := h; clear h; replace H := Option.bind_eq_some_iff.mp H; obtain ⟨⟨t652, t653⟩, A10, H⟩ := H; (try dsimp only at H); have A1 := Aside0.mk A10; clear A10; replace H := Option.bind_eq_some_iff.mp H; obtain ⟨⟨t654, t655⟩, A20, H⟩ := H; (try dsimp only at H); have A2 := Aside0.mk A20; clear A20; replace H := Option.bind_eq_some_iff.mp H; obtain ⟨⟨t656, t657, t658, t659, t660, t661, t662⟩, A30, H⟩ := H; (try dsimp only at H); have A3 := Aside0.mk A30; clear A30; replace H := Option.bind_eq_some_iff.mp H; obtain ⟨⟨t664, t665⟩, A40, H⟩ := H; (try dsimp only at H); have A4 := Aside0.mk A40; clear A40; replace H := Option.bind_eq_some_iff.mp H; obtain ⟨⟨t666, t667⟩, A50, H⟩ := H; (try dsimp only at H); have A5 := Aside0.mk A50; clear A50; replace H := Option.bind_eq_some_iff.mp H; obtain ⟨⟨t668, t669, t670, t671, t672, t673, t674⟩, A60, H⟩ := H; (try dsimp only at H); have A6 := Aside0.mk A60; clear A60; obtain ⟨y676, hy676⟩ : ∃ y_ : List (S25), y_ = (([(⟨(⟨t656, t657⟩ : S23), (⟨t658, t659⟩ : S23), t660, t661, t662⟩ : S25), (⟨(⟨t668, t669⟩ : S23), (⟨t670, t671⟩ : S23), t672, t673, t674⟩ : S25)] : List (S25))) := ⟨_, rfl⟩; (replace H : ((span_Op.f k (⟨#[97, 100, 100]⟩ : ByteArray) y676).bind fun bt679 => (if bt679.2.2.2.2.2.2.2 = 0 then ((span_Text.f k bt679.1 bt679.2.1 bt679.2.2.1 bt679.2.2.2.1 bt679.2.2.2.2.1 bt679.2.2.2.2.2.1 bt679.2.2.2.2.2.2.1).bind fun t688 => (if t688.toList = ([91, 48, 44, 50, 93, 47, 54] : List UInt8) then ((span_Has.f k bt679.1 bt679.2.1 bt679.2.2.1 bt679.2.2.2.1 bt679.2.2.2.2.1 bt679.2.2.2.2.2.1 bt679.2.2.2.2.2.2.1 5 6).bind fun t689 => (if t689 = true then ((span_Has.f k bt679.1 bt679.2.1 bt679.2.2.1 bt679.2.2.2.1 bt679.2.2.2.2.1 bt679.2.2.2.2.2.1 bt679.2.2.2.2.2.2.1 5 4).bind fun t690 => (some (!t690))) else (some false))) else (some false))) else (some false))) = some r := by first | (rw [hy676]; with_reducible exact H) | (have H2_ := (Option.bind_some _ _).symm.trans H; rw [hy676]; with_reducible exact H2_) | (have H2_ := (Option.bind_some _ _).symm.trans H; with_reducible exact H2_) | with_reducible exact H | (rw [hy676]; exact H) | exact H); have Ny676 := Aside0.mk hy676; clear hy676; replace H := Option.bind_eq_some_iff.mp H; obtain ⟨⟨t679, t680, t681, t682, t683, t684, t685, t686⟩, A70, H⟩ := H; (try dsimp only at H); have A7 := Aside0.mk A70; clear A70; by_cases c8 : t686 = 0
 ·
  rw [if_pos c8] at H; have c8b0 : (t686 == 0) = true := beq_iff_eq.mpr c8; have c8b1 : (t686 != 0) = false := bne_eq_false_iff_eq.mpr c8; clear c8; replace H := Option.bind_eq_some_iff.mp H; obtain ⟨t688, A90, H⟩ := H; (try dsimp only at H); have A9 := Aside0.mk A90; clear A90; by_cases c10 : t688.toList = ([91, 48, 44, 50, 93, 47, 54] : List UInt8)
  ·
   rw [if_pos c10] at H; have c10b0 : (t688.toList == ([91, 48, 44, 50, 93, 47, 54] : List UInt8)) = true := beq_iff_eq.mpr c10; have c10b1 : (t688.toList != ([91, 48, 44, 50, 93, 47, 54] : List UInt8)) = false := bne_eq_false_iff_eq.mpr c10; clear c10; replace H := Option.bind_eq_some_iff.mp H; obtain ⟨t689, A110, H⟩ := H; (try dsimp only at H); have A11 := Aside0.mk A110; clear A110; by_cases c12 : t689 = true
   · subst c12; rw [if_pos rfl] at H; replace H := Option.bind_eq_some_iff.mp H; obtain ⟨t690, A130, H⟩ := H; (try dsimp only at H); have A13 := Aside0.mk A130; clear A130; obtain rfl := Option.some.inj H; go_enter Tryd.func7, Tryd.ntmps7; go_wp2_with (first | ((with_reducible refine gate_callee (f := 21) rfl ?_); refine goesL_ (some 5) rfl rfl Tryd.func21 (by kernel_rfl) rfl #[.int .i64 0] rfl (by (try simp only [mp]); first | done | rfl | (simp only [ld]; rfl)) ?_; (with_reducible refine (serinetteref01_Whole.calls k 0 t652 t653 _ A1.out).mono ?_); rintro e w14 ⟨rfl, hb⟩; refine ⟨_, rfl, ?_⟩; replace HB := hs HB hb; (try clear hb); (try clear hb2); (try clear hk); (try clear hi)) | ((with_reducible refine gate_callee (f := 21) rfl ?_); refine goesL_ (some 6) rfl rfl Tryd.func21 (by kernel_rfl) rfl #[.int .i64 1] rfl (by (try simp only [mp]); first | done | rfl | (simp only [ld]; rfl)) ?_; (with_reducible refine (serinetteref01_Whole.calls k 1 t654 t655 _ A2.out).mono ?_); rintro e w15 ⟨rfl, hb⟩; refine ⟨_, rfl, ?_⟩; replace HB := hs HB hb; (try clear hb); (try clear hb2); (try clear hk); (try clear hi)) | ((with_reducible refine gate_callee (f := 5) rfl ?_); refine goesL_ (some 7) rfl rfl Tryd.func5 (by kernel_rfl) rfl #[.agg #[.int .i64 t652, .int .i64 t653], .agg #[.int .i64 t654, .int .i64 t655], .int .i64 2] rfl (by (try simp only [mp]); first | done | rfl | (simp only [ld]; rfl)) ?_; (with_reducible refine (span_Make.calls k t652 t653 t654 t655 2 t656 t657 t658 t659 t660 t661 t662 _ A3.out).mono ?_); rintro e w16 ⟨rfl, hb⟩; refine ⟨_, rfl, ?_⟩; replace HB := hs HB hb; (try clear hb); (try clear hb2); (try clear hk); (try clear hi)) | ((with_reducible refine gate_dst (N := 1) rfl ?_); refine box_event ?hg (N := 1) ?hd (cs := #[.int .i64 0, .int .i64 0, .int .i64 0, .int .i64 0, .int .i64 0, .bool false, .bool false]) (t := 25) ?hr ?_; (case hd => rfl); (case hg => rfl); (case hr => first | (go_simp; done) | (go_simp; rfl)); intro gb663 hg w17 hbox hb; have BK663 := Aside0.mk (hbox); have GW663 := hz_ hg HB; have GE663 := hz_ hg HB; replace HB := hs HB hb; clear hb hbox hg; obtain ⟨hcz18_0, hcz18_1, hcz18_2, hcz18_3, hcz18_4, hcz18_5, hcz18_6⟩ := bc7 BK663.out; obtain ⟨hfz18_0, hfz18_1, hfz18_2, hfz18_3, hfz18_4, hfz18_5, hfz18_6⟩ := bf7 BK663.out) | ((with_reducible refine gate_callee (f := 21) rfl ?_); refine goesL_ (some 8) rfl rfl Tryd.func21 (by kernel_rfl) rfl #[.int .i64 0] rfl (by (try simp only [mp]); first | done | rfl | (simp only [ld]; rfl)) ?_; (with_reducible refine (serinetteref01_Whole.calls k 0 t664 t665 _ A4.out).mono ?_); rintro e w19 ⟨rfl, hb⟩; refine ⟨_, rfl, ?_⟩; replace BK663 := Aside0.mk (blk_below (g := gb663) (o := .cells #[.int .i64 t656, .int .i64 t657, .int .i64 t658, .int .i64 t659, .int .i64 t660, .bool t661, .bool t662] 25 (0, 0)) (by exact rq BK663.out (by rfl)) hb); replace HB := Aside0.mk (below_step (by repeat first | (with_reducible exact HB.out) | refine bl1 ?_ | (with_reducible refine bset ?_ ‹_›) | exact HB.out) hb); (try clear hb); (try clear hb2); (try clear hk); (try clear hi)) | ((with_reducible refine gate_callee (f := 21) rfl ?_); refine goesL_ (some 9) rfl rfl Tryd.func21 (by kernel_rfl) rfl #[.int .i64 1] rfl (by (try simp only [mp]); first | done | rfl | (simp only [ld]; rfl)) ?_; (with_reducible refine (serinetteref01_Whole.calls k 1 t666 t667 _ A5.out).mono ?_); rintro e w20 ⟨rfl, hb⟩; refine ⟨_, rfl, ?_⟩; replace BK663 := kb BK663 hb; replace HB := Aside0.mk (below_step (by repeat first | (with_reducible exact HB.out) | refine bl1 ?_ | (with_reducible refine bset ?_ ‹_›) | exact HB.out) hb); (try clear hb); (try clear hb2); (try clear hk); (try clear hi)) | ((with_reducible refine gate_callee (f := 5) rfl ?_); refine goesL_ (some 10) rfl rfl Tryd.func5 (by kernel_rfl) rfl #[.agg #[.int .i64 t664, .int .i64 t665], .agg #[.int .i64 t666, .int .i64 t667], .int .i64 3] rfl (by (try simp only [mp]); first | done | rfl | (simp only [ld]; rfl)) ?_; (with_reducible refine (span_Make.calls k t664 t665 t666 t667 3 t668 t669 t670 t671 t672 t673 t674 _ A6.out).mono ?_); rintro e w21 ⟨rfl, hb⟩; refine ⟨_, rfl, ?_⟩; replace BK663 := kb BK663 hb; replace HB := Aside0.mk (below_step (by repeat first | (with_reducible exact HB.out) | refine bl1 ?_ | (with_reducible refine bset ?_ ‹_›) | exact HB.out) hb); (try clear hb); (try clear hb2); (try clear hk); (try clear hi)) | ((with_reducible refine gate_dst (N := 2) rfl ?_); refine box_event ?hg (N := 2) ?hd (cs := #[.int .i64 0, .int .i64 0, .int .i64 0, .int .i64 0, .int .i64 0, .bool false, .bool false]) (t := 25) ?hr ?_; (case hd => rfl); (case hg => rfl); (case hr => first | (go_simp; done) | (go_simp; rfl)); intro gb675 hg w22 hbox hb; have BK675 := Aside0.mk (hbox); have GW675 := Aside0.mk ((by rw [hg]; exact (below_size (by repeat first | (with_reducible exact HB.out) | refine bl1 ?_ | (with_reducible refine bset ?_ ‹_›) | exact HB.out)) : w.heap.size ≤ gb675)); have GE675 := Aside0.mk ((by rw [hg]; exact (below_size (by repeat first | (with_reducible exact HB.out) | refine bl1 ?_ | (with_reducible refine bset ?_ ‹_›) | exact HB.out)) : w.heap.size ≤ gb675)); have NB663_675 := nlk hg BK663; have NB675_663 := ngk hg BK663; replace BK663 := kb BK663 hb; replace HB := Aside0.mk (below_step (by repeat first | (with_reducible exact HB.out) | refine bl1 ?_ | (with_reducible refine bset ?_ ‹_›) | exact HB.out) hb); clear hb hbox hg; have hnb23 := NB675_663.out; have hnc23 := NB663_675.out; obtain ⟨hcz24_0, hcz24_1, hcz24_2, hcz24_3, hcz24_4, hcz24_5, hcz24_6⟩ := bc7 BK675.out; obtain ⟨hfz24_0, hfz24_1, hfz24_2, hfz24_3, hfz24_4, hfz24_5, hfz24_6⟩ := bf7 BK675.out; obtain ⟨hcz25_0, hcz25_1, hcz25_2, hcz25_3, hcz25_4, hcz25_5, hcz25_6⟩ := bc7 BK663.out; obtain ⟨hfz25_0, hfz25_1, hfz25_2, hfz25_3, hfz25_4, hfz25_5, hfz25_6⟩ := bf7 BK663.out) | ((with_reducible refine gate_dst (N := 14) rfl ?_); refine Kd.R_lit k25 _ 25 ?hg (N := 14) ?hd (xs := ([(⟨(⟨t656, t657⟩ : S23), (⟨t658, t659⟩ : S23), t660, t661, t662⟩ : S25), (⟨(⟨t668, t669⟩ : S23), (⟨t670, t671⟩ : S23), t672, t673, t674⟩ : S25)] : List (S25))) (inner := [.int .i64 t656, .int .i64 t657, .int .i64 t658, .int .i64 t659, .int .i64 t660, .bool t661, .bool t662, .int .i64 t668, .int .i64 t669, .int .i64 t670, .int .i64 t671, .int .i64 t672, .bool t673, .bool t674]) (ok := fun _ => True) (okp := fun _ => True) ?hr ?hp (fun _ hk => hk) trivial (Below.refl _ _) (Nat.le_refl _) (by simp) ?_; (case hd => rfl); (case hg => rfl); (case hr => first | (go_simp; done) | (go_simp; rfl)); (case hp => exact (Reps.c7 (show Kd.M k25 _ _ _ (⟨(⟨t656, t657⟩ : S23), (⟨t658, t659⟩ : S23), t660, t661, t662⟩ : S25) [.int .i64 t656, .int .i64 t657, .int .i64 t658, .int .i64 t659, .int .i64 t660, .bool t661, .bool t662] from (k25_mkM _ _ _ (⟨(⟨t656, t657⟩ : S23), (⟨t658, t659⟩ : S23), t660, t661, t662⟩ : S25) )) (Reps.c7 (show Kd.M k25 _ _ _ (⟨(⟨t668, t669⟩ : S23), (⟨t670, t671⟩ : S23), t672, t673, t674⟩ : S25) [.int .i64 t668, .int .i64 t669, .int .i64 t670, .int .i64 t671, .int .i64 t672, .bool t673, .bool t674] from (k25_mkM _ _ _ (⟨(⟨t668, t669⟩ : S23), (⟨t670, t671⟩ : S23), t672, t673, t674⟩ : S25) )) (Reps.none _ _)))); intro v677 w26 ho27 hb hg_ hnew_; clear hg_ hnew_; (first | rw [← Ny676.out] at ho27 | (simp only [Int.reduceToNat] at ho27; rw [← Ny676.out] at ho27)); have HO678 := Aside0.mk (Kd.R_lower (Kd.R_newB (Kd.R_newB ho27 (g := gb663) (o := .cells #[.int .i64 t656, .int .i64 t657, .int .i64 t658, .int .i64 t659, .int .i64 t660, .bool t661, .bool t662] 25 (0, 0)) (by refine bk ?_; refine blk_far ?_ NB663_675.out _; refine bk ?_; refine blk_far ?_ NB663_675.out _; refine bk ?_; refine blk_far ?_ NB663_675.out _; refine bk ?_; refine blk_far ?_ NB663_675.out _; refine bk ?_; refine blk_far ?_ NB663_675.out _; refine bk ?_; refine blk_far ?_ NB663_675.out _; refine bk ?_; refine blk_far ?_ NB663_675.out _; refine bk ?_; exact BK663.out)) (g := gb675) (o := .cells #[.int .i64 t668, .int .i64 t669, .int .i64 t670, .int .i64 t671, .int .i64 t672, .bool t673, .bool t674] 25 (0, 0)) (by exact rq BK675.out (by rfl))) (below_size (by repeat first | (with_reducible exact HB.out) | refine bl1 ?_ | (with_reducible refine bset ?_ ‹_›) | exact HB.out))); replace BK663 := Aside0.mk (blk_below (g := gb663) (o := .cells #[.int .i64 t656, .int .i64 t657, .int .i64 t658, .int .i64 t659, .int .i64 t660, .bool t661, .bool t662] 25 (0, 0)) (by refine bk ?_; refine blk_far ?_ NB663_675.out _; refine bk ?_; refine blk_far ?_ NB663_675.out _; refine bk ?_; refine blk_far ?_ NB663_675.out _; refine bk ?_; refine blk_far ?_ NB663_675.out _; refine bk ?_; refine blk_far ?_ NB663_675.out _; refine bk ?_; refine blk_far ?_ NB663_675.out _; refine bk ?_; refine blk_far ?_ NB663_675.out _; refine bk ?_; exact BK663.out) hb); replace BK675 := Aside0.mk (blk_below (g := gb675) (o := .cells #[.int .i64 t668, .int .i64 t669, .int .i64 t670, .int .i64 t671, .int .i64 t672, .bool t673, .bool t674] 25 (0, 0)) (by exact rq BK675.out (by rfl)) hb); replace HB := Aside0.mk (below_step (by repeat first | (with_reducible exact HB.out) | refine bl1 ?_ | (with_reducible refine bset ?_ ‹_›) | exact HB.out) hb); clear hb ho27; obtain ⟨Ao28, co28, eo28⟩ := Kd.R_slice HO678.out; subst eo28) | ((with_reducible refine gate_callee (f := 22) rfl ?_); refine goesL_ (some 15) rfl rfl Tryd.func22 (by kernel_rfl) rfl #[.string (⟨#[97, 100, 100]⟩ : ByteArray), .slice Ao28 y676.length co28] rfl (by (try simp only [mp]); first | done | rfl | (simp only [ld]; rfl)) ?_; (with_reducible refine (span_Op.calls k (⟨#[97, 100, 100]⟩ : ByteArray) _ _ y676 t679 t680 t681 t682 t683 t684 t685 t686 _ ?side1 ?side2 A7.out).mono ?_); (case side1 => repeat (first | exact (Kd.R_reads' HO678.out).2.2 | (with_reducible refine Kd.C_alloc ?_ _) | (with_reducible refine Kd.C_drewN ?_ _) | (with_reducible refine Kd.C_drew ?_))); (case side2 => exact (Kd.R_reads' HO678.out).2.1); rintro e w29 ⟨rfl, hb⟩; refine ⟨_, rfl, ?_⟩; replace HO678 := Aside0.mk (Kd.R_below (by (with_reducible repeat (first | apply Kd.R_alloc | apply Kd.R_drewN | apply Kd.R_drew)); exact HO678.out) hb); replace BK663 := kb BK663 hb; replace BK675 := kb BK675 hb; replace HB := Aside0.mk (below_step (by repeat first | (with_reducible exact HB.out) | refine bl1 ?_ | (with_reducible refine bset ?_ ‹_›) | exact HB.out) hb); (try clear hb); (try clear hb2); (try clear hk); (try clear hi)) | ((with_reducible refine gate_dst (N := 3) rfl ?_); refine box_event ?hg (N := 3) ?hd (cs := #[.int .i64 0, .int .i64 0, .int .i64 0, .int .i64 0, .int .i64 0, .bool false, .bool false]) (t := 25) ?hr ?_; (case hd => rfl); (case hg => rfl); (case hr => first | (go_simp; done) | (go_simp; rfl)); intro gb687 hg w30 hbox hb; have BK687 := Aside0.mk (hbox); have GW687 := Aside0.mk ((by rw [hg]; exact (below_size (by repeat first | (with_reducible exact HB.out) | refine bl1 ?_ | (with_reducible refine bset ?_ ‹_›) | exact HB.out)) : w.heap.size ≤ gb687)); have GE687 := Aside0.mk ((by rw [hg]; exact (below_size (by repeat first | (with_reducible exact HB.out) | refine bl1 ?_ | (with_reducible refine bset ?_ ‹_›) | exact HB.out)) : w.heap.size ≤ gb687)); have NB663_687 := nlk hg BK663; have NB687_663 := ngk hg BK663; have NB675_687 := nlk hg BK675; have NB687_675 := ngk hg BK675; replace HO678 := Aside0.mk (Kd.R_below (Kd.R_elderB (by (with_reducible repeat (first | apply Kd.R_alloc | apply Kd.R_drewN | apply Kd.R_drew)); exact HO678.out) gb687 (Nat.le_of_eq hg.symm)) hb); replace BK663 := kb BK663 hb; replace BK675 := kb BK675 hb; replace HB := Aside0.mk (below_step (by repeat first | (with_reducible exact HB.out) | refine bl1 ?_ | (with_reducible refine bset ?_ ‹_›) | exact HB.out) hb); clear hb hbox hg; have hnb31 := NB687_663.out; have hnc31 := NB663_687.out; have hnb32 := NB687_675.out; have hnc32 := NB675_687.out; obtain ⟨hcz33_0, hcz33_1, hcz33_2, hcz33_3, hcz33_4, hcz33_5, hcz33_6⟩ := bc7 BK687.out; obtain ⟨hfz33_0, hfz33_1, hfz33_2, hfz33_3, hfz33_4, hfz33_5, hfz33_6⟩ := bf7 BK687.out) | (go_at_call 23; (with_reducible refine (span_Text.calls k t679 t680 t681 t682 t683 t684 t685 t688 _ A9.out).mono ?_); rintro e w34 ⟨rfl, hb⟩; replace HO678 := Aside0.mk (Kd.R_below (by (with_reducible repeat (first | apply Kd.R_alloc | apply Kd.R_drewN | apply Kd.R_drew)); exact (Kd.R_mono (Kd.R_far (p := ⟨gb687, 6, none⟩) (Kd.R_far (p := ⟨gb687, 5, none⟩) (Kd.R_far (p := ⟨gb687, 4, none⟩) (Kd.R_far (p := ⟨gb687, 3, none⟩) (Kd.R_far (p := ⟨gb687, 2, none⟩) (Kd.R_far (p := ⟨gb687, 1, none⟩) (Kd.R_far (p := ⟨gb687, 0, none⟩) (Kd.R_mono HO678.out (fun k_ hk => (⟨hk, hk.2⟩ : _ ∧ k_ ≠ gb687))) (fun _ hk => hk.2) (.int .i64 t679)) (fun _ hk => hk.2) (.int .i64 t680)) (fun _ hk => hk.2) (.int .i64 t681)) (fun _ hk => hk.2) (.int .i64 t682)) (fun _ hk => hk.2) (.int .i64 t683)) (fun _ hk => hk.2) (.bool t684)) (fun _ hk => hk.2) (.bool t685)) (fun _ h_ => h_.1))) hb); replace BK663 := Aside0.mk (blk_below (g := gb663) (o := .cells #[.int .i64 t656, .int .i64 t657, .int .i64 t658, .int .i64 t659, .int .i64 t660, .bool t661, .bool t662] 25 (0, 0)) (by refine bk ?_; refine blk_far ?_ NB663_687.out _; refine bk ?_; refine blk_far ?_ NB663_687.out _; refine bk ?_; refine blk_far ?_ NB663_687.out _; refine bk ?_; refine blk_far ?_ NB663_687.out _; refine bk ?_; refine blk_far ?_ NB663_687.out _; refine bk ?_; refine blk_far ?_ NB663_687.out _; refine bk ?_; refine blk_far ?_ NB663_687.out _; refine bk ?_; exact BK663.out) hb); replace BK675 := Aside0.mk (blk_below (g := gb675) (o := .cells #[.int .i64 t668, .int .i64 t669, .int .i64 t670, .int .i64 t671, .int .i64 t672, .bool t673, .bool t674] 25 (0, 0)) (by refine bk ?_; refine blk_far ?_ NB675_687.out _; refine bk ?_; refine blk_far ?_ NB675_687.out _; refine bk ?_; refine blk_far ?_ NB675_687.out _; refine bk ?_; refine blk_far ?_ NB675_687.out _; refine bk ?_; refine blk_far ?_ NB675_687.out _; refine bk ?_; refine blk_far ?_ NB675_687.out _; refine bk ?_; refine blk_far ?_ NB675_687.out _; refine bk ?_; exact BK675.out) hb); replace BK687 := Aside0.mk (blk_below (g := gb687) (o := .cells #[.int .i64 t679, .int .i64 t680, .int .i64 t681, .int .i64 t682, .int .i64 t683, .bool t684, .bool t685] 25 (0, 0)) (by exact rq BK687.out (by rfl)) hb); replace HB := Aside0.mk (below_step (by repeat first | (with_reducible exact HB.out) | refine bl1 ?_ | (with_reducible refine bset ?_ ‹_›) | exact HB.out) hb); (try clear hb); (try clear hb2); (try clear hk); (try clear hi); obtain ⟨hcz35_0, hcz35_1, hcz35_2, hcz35_3, hcz35_4, hcz35_5, hcz35_6⟩ := bc7 BK687.out; obtain ⟨hfz35_0, hfz35_1, hfz35_2, hfz35_3, hfz35_4, hfz35_5, hfz35_6⟩ := bf7 BK687.out) | (go_at_call 11; (with_reducible refine (span_Has.calls k t679 t680 t681 t682 t683 t684 t685 5 6 true _ A11.out).mono ?_); rintro e w36 ⟨rfl, hb⟩; replace HO678 := Aside0.mk (Kd.R_below (by (with_reducible repeat (first | apply Kd.R_alloc | apply Kd.R_drewN | apply Kd.R_drew)); exact HO678.out) hb); replace BK663 := kb BK663 hb; replace BK675 := kb BK675 hb; replace BK687 := kb BK687 hb; replace HB := Aside0.mk (below_step (by repeat first | (with_reducible exact HB.out) | refine bl1 ?_ | (with_reducible refine bset ?_ ‹_›) | exact HB.out) hb); (try clear hb); (try clear hb2); (try clear hk); (try clear hi); obtain ⟨hcz37_0, hcz37_1, hcz37_2, hcz37_3, hcz37_4, hcz37_5, hcz37_6⟩ := bc7 BK687.out; obtain ⟨hfz37_0, hfz37_1, hfz37_2, hfz37_3, hfz37_4, hfz37_5, hfz37_6⟩ := bf7 BK687.out) | (go_at_call 11; (with_reducible refine (span_Has.calls k t679 t680 t681 t682 t683 t684 t685 5 4 t690 _ A13.out).mono ?_); rintro e w38 ⟨rfl, hb⟩; replace HO678 := Aside0.mk (Kd.R_below (by (with_reducible repeat (first | apply Kd.R_alloc | apply Kd.R_drewN | apply Kd.R_drew)); exact HO678.out) hb); replace BK663 := kb BK663 hb; replace BK675 := kb BK675 hb; replace BK687 := kb BK687 hb; replace HB := Aside0.mk (below_step (by repeat first | (with_reducible exact HB.out) | refine bl1 ?_ | (with_reducible refine bset ?_ ‹_›) | exact HB.out) hb); (try clear hb); (try clear hb2); (try clear hk); (try clear hi))); go_ret; exact ⟨by first | rfl | (simp [errW_none, errW_some] <;> rfl) | (simp [*, errW_none, errW_some] <;> rfl), by repeat first | (with_reducible exact HB.out) | (with_reducible refine bset ?_ ‹_›) | refine bl1 ?_ | exact HB.out⟩
   · replace c12 := Bool.eq_false_iff.mpr c12; subst c12; rw [if_neg (show ¬ (false = true) by decide)] at H; obtain rfl := Option.some.inj H; go_enter Tryd.func7, Tryd.ntmps7; go_wp2_with (first | ((with_reducible refine gate_callee (f := 21) rfl ?_); refine goesL_ (some 5) rfl rfl Tryd.func21 (by kernel_rfl) rfl #[.int .i64 0] rfl (by (try simp only [mp]); first | done | rfl | (simp only [ld]; rfl)) ?_; (with_reducible refine (serinetteref01_Whole.calls k 0 t652 t653 _ A1.out).mono ?_); rintro e w39 ⟨rfl, hb⟩; refine ⟨_, rfl, ?_⟩; replace HB := hs HB hb; (try clear hb); (try clear hb2); (try clear hk); (try clear hi)) | ((with_reducible refine gate_callee (f := 21) rfl ?_); refine goesL_ (some 6) rfl rfl Tryd.func21 (by kernel_rfl) rfl #[.int .i64 1] rfl (by (try simp only [mp]); first | done | rfl | (simp only [ld]; rfl)) ?_; (with_reducible refine (serinetteref01_Whole.calls k 1 t654 t655 _ A2.out).mono ?_); rintro e w40 ⟨rfl, hb⟩; refine ⟨_, rfl, ?_⟩; replace HB := hs HB hb; (try clear hb); (try clear hb2); (try clear hk); (try clear hi)) | ((with_reducible refine gate_callee (f := 5) rfl ?_); refine goesL_ (some 7) rfl rfl Tryd.func5 (by kernel_rfl) rfl #[.agg #[.int .i64 t652, .int .i64 t653], .agg #[.int .i64 t654, .int .i64 t655], .int .i64 2] rfl (by (try simp only [mp]); first | done | rfl | (simp only [ld]; rfl)) ?_; (with_reducible refine (span_Make.calls k t652 t653 t654 t655 2 t656 t657 t658 t659 t660 t661 t662 _ A3.out).mono ?_); rintro e w41 ⟨rfl, hb⟩; refine ⟨_, rfl, ?_⟩; replace HB := hs HB hb; (try clear hb); (try clear hb2); (try clear hk); (try clear hi)) | ((with_reducible refine gate_dst (N := 1) rfl ?_); refine box_event ?hg (N := 1) ?hd (cs := #[.int .i64 0, .int .i64 0, .int .i64 0, .int .i64 0, .int .i64 0, .bool false, .bool false]) (t := 25) ?hr ?_; (case hd => rfl); (case hg => rfl); (case hr => first | (go_simp; done) | (go_simp; rfl)); intro gb663 hg w42 hbox hb; have BK663 := Aside0.mk (hbox); have GW663 := hz_ hg HB; have GE663 := hz_ hg HB; replace HB := hs HB hb; clear hb hbox hg; obtain ⟨hcz43_0, hcz43_1, hcz43_2, hcz43_3, hcz43_4, hcz43_5, hcz43_6⟩ := bc7 BK663.out; obtain ⟨hfz43_0, hfz43_1, hfz43_2, hfz43_3, hfz43_4, hfz43_5, hfz43_6⟩ := bf7 BK663.out) | ((with_reducible refine gate_callee (f := 21) rfl ?_); refine goesL_ (some 8) rfl rfl Tryd.func21 (by kernel_rfl) rfl #[.int .i64 0] rfl (by (try simp only [mp]); first | done | rfl | (simp only [ld]; rfl)) ?_; (with_reducible refine (serinetteref01_Whole.calls k 0 t664 t665 _ A4.out).mono ?_); rintro e w44 ⟨rfl, hb⟩; refine ⟨_, rfl, ?_⟩; replace BK663 := Aside0.mk (blk_below (g := gb663) (o := .cells #[.int .i64 t656, .int .i64 t657, .int .i64 t658, .int .i64 t659, .int .i64 t660, .bool t661, .bool t662] 25 (0, 0)) (by exact rq BK663.out (by rfl)) hb); replace HB := Aside0.mk (below_step (by repeat first | (with_reducible exact HB.out) | refine bl1 ?_ | (with_reducible refine bset ?_ ‹_›) | exact HB.out) hb); (try clear hb); (try clear hb2); (try clear hk); (try clear hi)) | ((with_reducible refine gate_callee (f := 21) rfl ?_); refine goesL_ (some 9) rfl rfl Tryd.func21 (by kernel_rfl) rfl #[.int .i64 1] rfl (by (try simp only [mp]); first | done | rfl | (simp only [ld]; rfl)) ?_; (with_reducible refine (serinetteref01_Whole.calls k 1 t666 t667 _ A5.out).mono ?_); rintro e w45 ⟨rfl, hb⟩; refine ⟨_, rfl, ?_⟩; replace BK663 := kb BK663 hb; replace HB := Aside0.mk (below_step (by repeat first | (with_reducible exact HB.out) | refine bl1 ?_ | (with_reducible refine bset ?_ ‹_›) | exact HB.out) hb); (try clear hb); (try clear hb2); (try clear hk); (try clear hi)) | ((with_reducible refine gate_callee (f := 5) rfl ?_); refine goesL_ (some 10) rfl rfl Tryd.func5 (by kernel_rfl) rfl #[.agg #[.int .i64 t664, .int .i64 t665], .agg #[.int .i64 t666, .int .i64 t667], .int .i64 3] rfl (by (try simp only [mp]); first | done | rfl | (simp only [ld]; rfl)) ?_; (with_reducible refine (span_Make.calls k t664 t665 t666 t667 3 t668 t669 t670 t671 t672 t673 t674 _ A6.out).mono ?_); rintro e w46 ⟨rfl, hb⟩; refine ⟨_, rfl, ?_⟩; replace BK663 := kb BK663 hb; replace HB := Aside0.mk (below_step (by repeat first | (with_reducible exact HB.out) | refine bl1 ?_ | (with_reducible refine bset ?_ ‹_›) | exact HB.out) hb); (try clear hb); (try clear hb2); (try clear hk); (try clear hi)) | ((with_reducible refine gate_dst (N := 2) rfl ?_); refine box_event ?hg (N := 2) ?hd (cs := #[.int .i64 0, .int .i64 0, .int .i64 0, .int .i64 0, .int .i64 0, .bool false, .bool false]) (t := 25) ?hr ?_; (case hd => rfl); (case hg => rfl); (case hr => first | (go_simp; done) | (go_simp; rfl)); intro gb675 hg w47 hbox hb; have BK675 := Aside0.mk (hbox); have GW675 := Aside0.mk ((by rw [hg]; exact (below_size (by repeat first | (with_reducible exact HB.out) | refine bl1 ?_ | (with_reducible refine bset ?_ ‹_›) | exact HB.out)) : w.heap.size ≤ gb675)); have GE675 := Aside0.mk ((by rw [hg]; exact (below_size (by repeat first | (with_reducible exact HB.out) | refine bl1 ?_ | (with_reducible refine bset ?_ ‹_›) | exact HB.out)) : w.heap.size ≤ gb675)); have NB663_675 := nlk hg BK663; have NB675_663 := ngk hg BK663; replace BK663 := kb BK663 hb; replace HB := Aside0.mk (below_step (by repeat first | (with_reducible exact HB.out) | refine bl1 ?_ | (with_reducible refine bset ?_ ‹_›) | exact HB.out) hb); clear hb hbox hg; have hnb48 := NB675_663.out; have hnc48 := NB663_675.out; obtain ⟨hcz49_0, hcz49_1, hcz49_2, hcz49_3, hcz49_4, hcz49_5, hcz49_6⟩ := bc7 BK675.out; obtain ⟨hfz49_0, hfz49_1, hfz49_2, hfz49_3, hfz49_4, hfz49_5, hfz49_6⟩ := bf7 BK675.out; obtain ⟨hcz50_0, hcz50_1, hcz50_2, hcz50_3, hcz50_4, hcz50_5, hcz50_6⟩ := bc7 BK663.out; obtain ⟨hfz50_0, hfz50_1, hfz50_2, hfz50_3, hfz50_4, hfz50_5, hfz50_6⟩ := bf7 BK663.out) | ((with_reducible refine gate_dst (N := 14) rfl ?_); refine Kd.R_lit k25 _ 25 ?hg (N := 14) ?hd (xs := ([(⟨(⟨t656, t657⟩ : S23), (⟨t658, t659⟩ : S23), t660, t661, t662⟩ : S25), (⟨(⟨t668, t669⟩ : S23), (⟨t670, t671⟩ : S23), t672, t673, t674⟩ : S25)] : List (S25))) (inner := [.int .i64 t656, .int .i64 t657, .int .i64 t658, .int .i64 t659, .int .i64 t660, .bool t661, .bool t662, .int .i64 t668, .int .i64 t669, .int .i64 t670, .int .i64 t671, .int .i64 t672, .bool t673, .bool t674]) (ok := fun _ => True) (okp := fun _ => True) ?hr ?hp (fun _ hk => hk) trivial (Below.refl _ _) (Nat.le_refl _) (by simp) ?_; (case hd => rfl); (case hg => rfl); (case hr => first | (go_simp; done) | (go_simp; rfl)); (case hp => exact (Reps.c7 (show Kd.M k25 _ _ _ (⟨(⟨t656, t657⟩ : S23), (⟨t658, t659⟩ : S23), t660, t661, t662⟩ : S25) [.int .i64 t656, .int .i64 t657, .int .i64 t658, .int .i64 t659, .int .i64 t660, .bool t661, .bool t662] from (k25_mkM _ _ _ (⟨(⟨t656, t657⟩ : S23), (⟨t658, t659⟩ : S23), t660, t661, t662⟩ : S25) )) (Reps.c7 (show Kd.M k25 _ _ _ (⟨(⟨t668, t669⟩ : S23), (⟨t670, t671⟩ : S23), t672, t673, t674⟩ : S25) [.int .i64 t668, .int .i64 t669, .int .i64 t670, .int .i64 t671, .int .i64 t672, .bool t673, .bool t674] from (k25_mkM _ _ _ (⟨(⟨t668, t669⟩ : S23), (⟨t670, t671⟩ : S23), t672, t673, t674⟩ : S25) )) (Reps.none _ _)))); intro v677 w51 ho52 hb hg_ hnew_; clear hg_ hnew_; (first | rw [← Ny676.out] at ho52 | (simp only [Int.reduceToNat] at ho52; rw [← Ny676.out] at ho52)); have HO678 := Aside0.mk (Kd.R_lower (Kd.R_newB (Kd.R_newB ho52 (g := gb663) (o := .cells #[.int .i64 t656, .int .i64 t657, .int .i64 t658, .int .i64 t659, .int .i64 t660, .bool t661, .bool t662] 25 (0, 0)) (by refine bk ?_; refine blk_far ?_ NB663_675.out _; refine bk ?_; refine blk_far ?_ NB663_675.out _; refine bk ?_; refine blk_far ?_ NB663_675.out _; refine bk ?_; refine blk_far ?_ NB663_675.out _; refine bk ?_; refine blk_far ?_ NB663_675.out _; refine bk ?_; refine blk_far ?_ NB663_675.out _; refine bk ?_; refine blk_far ?_ NB663_675.out _; refine bk ?_; exact BK663.out)) (g := gb675) (o := .cells #[.int .i64 t668, .int .i64 t669, .int .i64 t670, .int .i64 t671, .int .i64 t672, .bool t673, .bool t674] 25 (0, 0)) (by exact rq BK675.out (by rfl))) (below_size (by repeat first | (with_reducible exact HB.out) | refine bl1 ?_ | (with_reducible refine bset ?_ ‹_›) | exact HB.out))); replace BK663 := Aside0.mk (blk_below (g := gb663) (o := .cells #[.int .i64 t656, .int .i64 t657, .int .i64 t658, .int .i64 t659, .int .i64 t660, .bool t661, .bool t662] 25 (0, 0)) (by refine bk ?_; refine blk_far ?_ NB663_675.out _; refine bk ?_; refine blk_far ?_ NB663_675.out _; refine bk ?_; refine blk_far ?_ NB663_675.out _; refine bk ?_; refine blk_far ?_ NB663_675.out _; refine bk ?_; refine blk_far ?_ NB663_675.out _; refine bk ?_; refine blk_far ?_ NB663_675.out _; refine bk ?_; refine blk_far ?_ NB663_675.out _; refine bk ?_; exact BK663.out) hb); replace BK675 := Aside0.mk (blk_below (g := gb675) (o := .cells #[.int .i64 t668, .int .i64 t669, .int .i64 t670, .int .i64 t671, .int .i64 t672, .bool t673, .bool t674] 25 (0, 0)) (by exact rq BK675.out (by rfl)) hb); replace HB := Aside0.mk (below_step (by repeat first | (with_reducible exact HB.out) | refine bl1 ?_ | (with_reducible refine bset ?_ ‹_›) | exact HB.out) hb); clear hb ho52; obtain ⟨Ao53, co53, eo53⟩ := Kd.R_slice HO678.out; subst eo53) | ((with_reducible refine gate_callee (f := 22) rfl ?_); refine goesL_ (some 15) rfl rfl Tryd.func22 (by kernel_rfl) rfl #[.string (⟨#[97, 100, 100]⟩ : ByteArray), .slice Ao53 y676.length co53] rfl (by (try simp only [mp]); first | done | rfl | (simp only [ld]; rfl)) ?_; (with_reducible refine (span_Op.calls k (⟨#[97, 100, 100]⟩ : ByteArray) _ _ y676 t679 t680 t681 t682 t683 t684 t685 t686 _ ?side1 ?side2 A7.out).mono ?_); (case side1 => repeat (first | exact (Kd.R_reads' HO678.out).2.2 | (with_reducible refine Kd.C_alloc ?_ _) | (with_reducible refine Kd.C_drewN ?_ _) | (with_reducible refine Kd.C_drew ?_))); (case side2 => exact (Kd.R_reads' HO678.out).2.1); rintro e w54 ⟨rfl, hb⟩; refine ⟨_, rfl, ?_⟩; replace HO678 := Aside0.mk (Kd.R_below (by (with_reducible repeat (first | apply Kd.R_alloc | apply Kd.R_drewN | apply Kd.R_drew)); exact HO678.out) hb); replace BK663 := kb BK663 hb; replace BK675 := kb BK675 hb; replace HB := Aside0.mk (below_step (by repeat first | (with_reducible exact HB.out) | refine bl1 ?_ | (with_reducible refine bset ?_ ‹_›) | exact HB.out) hb); (try clear hb); (try clear hb2); (try clear hk); (try clear hi)) | ((with_reducible refine gate_dst (N := 3) rfl ?_); refine box_event ?hg (N := 3) ?hd (cs := #[.int .i64 0, .int .i64 0, .int .i64 0, .int .i64 0, .int .i64 0, .bool false, .bool false]) (t := 25) ?hr ?_; (case hd => rfl); (case hg => rfl); (case hr => first | (go_simp; done) | (go_simp; rfl)); intro gb687 hg w55 hbox hb; have BK687 := Aside0.mk (hbox); have GW687 := Aside0.mk ((by rw [hg]; exact (below_size (by repeat first | (with_reducible exact HB.out) | refine bl1 ?_ | (with_reducible refine bset ?_ ‹_›) | exact HB.out)) : w.heap.size ≤ gb687)); have GE687 := Aside0.mk ((by rw [hg]; exact (below_size (by repeat first | (with_reducible exact HB.out) | refine bl1 ?_ | (with_reducible refine bset ?_ ‹_›) | exact HB.out)) : w.heap.size ≤ gb687)); have NB663_687 := nlk hg BK663; have NB687_663 := ngk hg BK663; have NB675_687 := nlk hg BK675; have NB687_675 := ngk hg BK675; replace HO678 := Aside0.mk (Kd.R_below (Kd.R_elderB (by (with_reducible repeat (first | apply Kd.R_alloc | apply Kd.R_drewN | apply Kd.R_drew)); exact HO678.out) gb687 (Nat.le_of_eq hg.symm)) hb); replace BK663 := kb BK663 hb; replace BK675 := kb BK675 hb; replace HB := Aside0.mk (below_step (by repeat first | (with_reducible exact HB.out) | refine bl1 ?_ | (with_reducible refine bset ?_ ‹_›) | exact HB.out) hb); clear hb hbox hg; have hnb56 := NB687_663.out; have hnc56 := NB663_687.out; have hnb57 := NB687_675.out; have hnc57 := NB675_687.out; obtain ⟨hcz58_0, hcz58_1, hcz58_2, hcz58_3, hcz58_4, hcz58_5, hcz58_6⟩ := bc7 BK687.out; obtain ⟨hfz58_0, hfz58_1, hfz58_2, hfz58_3, hfz58_4, hfz58_5, hfz58_6⟩ := bf7 BK687.out) | (go_at_call 23; (with_reducible refine (span_Text.calls k t679 t680 t681 t682 t683 t684 t685 t688 _ A9.out).mono ?_); rintro e w59 ⟨rfl, hb⟩; replace HO678 := Aside0.mk (Kd.R_below (by (with_reducible repeat (first | apply Kd.R_alloc | apply Kd.R_drewN | apply Kd.R_drew)); exact (Kd.R_mono (Kd.R_far (p := ⟨gb687, 6, none⟩) (Kd.R_far (p := ⟨gb687, 5, none⟩) (Kd.R_far (p := ⟨gb687, 4, none⟩) (Kd.R_far (p := ⟨gb687, 3, none⟩) (Kd.R_far (p := ⟨gb687, 2, none⟩) (Kd.R_far (p := ⟨gb687, 1, none⟩) (Kd.R_far (p := ⟨gb687, 0, none⟩) (Kd.R_mono HO678.out (fun k_ hk => (⟨hk, hk.2⟩ : _ ∧ k_ ≠ gb687))) (fun _ hk => hk.2) (.int .i64 t679)) (fun _ hk => hk.2) (.int .i64 t680)) (fun _ hk => hk.2) (.int .i64 t681)) (fun _ hk => hk.2) (.int .i64 t682)) (fun _ hk => hk.2) (.int .i64 t683)) (fun _ hk => hk.2) (.bool t684)) (fun _ hk => hk.2) (.bool t685)) (fun _ h_ => h_.1))) hb); replace BK663 := Aside0.mk (blk_below (g := gb663) (o := .cells #[.int .i64 t656, .int .i64 t657, .int .i64 t658, .int .i64 t659, .int .i64 t660, .bool t661, .bool t662] 25 (0, 0)) (by refine bk ?_; refine blk_far ?_ NB663_687.out _; refine bk ?_; refine blk_far ?_ NB663_687.out _; refine bk ?_; refine blk_far ?_ NB663_687.out _; refine bk ?_; refine blk_far ?_ NB663_687.out _; refine bk ?_; refine blk_far ?_ NB663_687.out _; refine bk ?_; refine blk_far ?_ NB663_687.out _; refine bk ?_; refine blk_far ?_ NB663_687.out _; refine bk ?_; exact BK663.out) hb); replace BK675 := Aside0.mk (blk_below (g := gb675) (o := .cells #[.int .i64 t668, .int .i64 t669, .int .i64 t670, .int .i64 t671, .int .i64 t672, .bool t673, .bool t674] 25 (0, 0)) (by refine bk ?_; refine blk_far ?_ NB675_687.out _; refine bk ?_; refine blk_far ?_ NB675_687.out _; refine bk ?_; refine blk_far ?_ NB675_687.out _; refine bk ?_; refine blk_far ?_ NB675_687.out _; refine bk ?_; refine blk_far ?_ NB675_687.out _; refine bk ?_; refine blk_far ?_ NB675_687.out _; refine bk ?_; refine blk_far ?_ NB675_687.out _; refine bk ?_; exact BK675.out) hb); replace BK687 := Aside0.mk (blk_below (g := gb687) (o := .cells #[.int .i64 t679, .int .i64 t680, .int .i64 t681, .int .i64 t682, .int .i64 t683, .bool t684, .bool t685] 25 (0, 0)) (by exact rq BK687.out (by rfl)) hb); replace HB := Aside0.mk (below_step (by repeat first | (with_reducible exact HB.out) | refine bl1 ?_ | (with_reducible refine bset ?_ ‹_›) | exact HB.out) hb); (try clear hb); (try clear hb2); (try clear hk); (try clear hi); obtain ⟨hcz60_0, hcz60_1, hcz60_2, hcz60_3, hcz60_4, hcz60_5, hcz60_6⟩ := bc7 BK687.out; obtain ⟨hfz60_0, hfz60_1, hfz60_2, hfz60_3, hfz60_4, hfz60_5, hfz60_6⟩ := bf7 BK687.out) | (go_at_call 11; (with_reducible refine (span_Has.calls k t679 t680 t681 t682 t683 t684 t685 5 6 false _ A11.out).mono ?_); rintro e w61 ⟨rfl, hb⟩; replace HO678 := Aside0.mk (Kd.R_below (by (with_reducible repeat (first | apply Kd.R_alloc | apply Kd.R_drewN | apply Kd.R_drew)); exact HO678.out) hb); replace BK663 := kb BK663 hb; replace BK675 := kb BK675 hb; replace BK687 := kb BK687 hb; replace HB := Aside0.mk (below_step (by repeat first | (with_reducible exact HB.out) | refine bl1 ?_ | (with_reducible refine bset ?_ ‹_›) | exact HB.out) hb); (try clear hb); (try clear hb2); (try clear hk); (try clear hi))); go_ret; exact ⟨by first | rfl | (simp [errW_none, errW_some] <;> rfl) | (simp [*, errW_none, errW_some] <;> rfl), by repeat first | (with_reducible exact HB.out) | (with_reducible refine bset ?_ ‹_›) | refine bl1 ?_ | exact HB.out⟩
  · rw [if_neg c10] at H; have c10b0 : (t688.toList == ([91, 48, 44, 50, 93, 47, 54] : List UInt8)) = false := beq_eq_false_iff_ne.mpr c10; have c10b1 : (t688.toList != ([91, 48, 44, 50, 93, 47, 54] : List UInt8)) = true := bne_iff_ne.mpr c10; obtain rfl := Option.some.inj H; go_enter Tryd.func7, Tryd.ntmps7; go_wp2_with (first | ((with_reducible refine gate_callee (f := 21) rfl ?_); refine goesL_ (some 5) rfl rfl Tryd.func21 (by kernel_rfl) rfl #[.int .i64 0] rfl (by (try simp only [mp]); first | done | rfl | (simp only [ld]; rfl)) ?_; (with_reducible refine (serinetteref01_Whole.calls k 0 t652 t653 _ A1.out).mono ?_); rintro e w62 ⟨rfl, hb⟩; refine ⟨_, rfl, ?_⟩; replace HB := hs HB hb; (try clear hb); (try clear hb2); (try clear hk); (try clear hi)) | ((with_reducible refine gate_callee (f := 21) rfl ?_); refine goesL_ (some 6) rfl rfl Tryd.func21 (by kernel_rfl) rfl #[.int .i64 1] rfl (by (try simp only [mp]); first | done | rfl | (simp only [ld]; rfl)) ?_; (with_reducible refine (serinetteref01_Whole.calls k 1 t654 t655 _ A2.out).mono ?_); rintro e w63 ⟨rfl, hb⟩; refine ⟨_, rfl, ?_⟩; replace HB := hs HB hb; (try clear hb); (try clear hb2); (try clear hk); (try clear hi)) | ((with_reducible refine gate_callee (f := 5) rfl ?_); refine goesL_ (some 7) rfl rfl Tryd.func5 (by kernel_rfl) rfl #[.agg #[.int .i64 t652, .int .i64 t653], .agg #[.int .i64 t654, .int .i64 t655], .int .i64 2] rfl (by (try simp only [mp]); first | done | rfl | (simp only [ld]; rfl)) ?_; (with_reducible refine (span_Make.calls k t652 t653 t654 t655 2 t656 t657 t658 t659 t660 t661 t662 _ A3.out).mono ?_); rintro e w64 ⟨rfl, hb⟩; refine ⟨_, rfl, ?_⟩; replace HB := hs HB hb; (try clear hb); (try clear hb2); (try clear hk); (try clear hi)) | ((with_reducible refine gate_dst (N := 1) rfl ?_); refine box_event ?hg (N := 1) ?hd (cs := #[.int .i64 0, .int .i64 0, .int .i64 0, .int .i64 0, .int .i64 0, .bool false, .bool false]) (t := 25) ?hr ?_; (case hd => rfl); (case hg => rfl); (case hr => first | (go_simp; done) | (go_simp; rfl)); intro gb663 hg w65 hbox hb; have BK663 := Aside0.mk (hbox); have GW663 := hz_ hg HB; have GE663 := hz_ hg HB; replace HB := hs HB hb; clear hb hbox hg; obtain ⟨hcz66_0, hcz66_1, hcz66_2, hcz66_3, hcz66_4, hcz66_5, hcz66_6⟩ := bc7 BK663.out; obtain ⟨hfz66_0, hfz66_1, hfz66_2, hfz66_3, hfz66_4, hfz66_5, hfz66_6⟩ := bf7 BK663.out) | ((with_reducible refine gate_callee (f := 21) rfl ?_); refine goesL_ (some 8) rfl rfl Tryd.func21 (by kernel_rfl) rfl #[.int .i64 0] rfl (by (try simp only [mp]); first | done | rfl | (simp only [ld]; rfl)) ?_; (with_reducible refine (serinetteref01_Whole.calls k 0 t664 t665 _ A4.out).mono ?_); rintro e w67 ⟨rfl, hb⟩; refine ⟨_, rfl, ?_⟩; replace BK663 := Aside0.mk (blk_below (g := gb663) (o := .cells #[.int .i64 t656, .int .i64 t657, .int .i64 t658, .int .i64 t659, .int .i64 t660, .bool t661, .bool t662] 25 (0, 0)) (by exact rq BK663.out (by rfl)) hb); replace HB := Aside0.mk (below_step (by repeat first | (with_reducible exact HB.out) | refine bl1 ?_ | (with_reducible refine bset ?_ ‹_›) | exact HB.out) hb); (try clear hb); (try clear hb2); (try clear hk); (try clear hi)) | ((with_reducible refine gate_callee (f := 21) rfl ?_); refine goesL_ (some 9) rfl rfl Tryd.func21 (by kernel_rfl) rfl #[.int .i64 1] rfl (by (try simp only [mp]); first | done | rfl | (simp only [ld]; rfl)) ?_; (with_reducible refine (serinetteref01_Whole.calls k 1 t666 t667 _ A5.out).mono ?_); rintro e w68 ⟨rfl, hb⟩; refine ⟨_, rfl, ?_⟩; replace BK663 := kb BK663 hb; replace HB := Aside0.mk (below_step (by repeat first | (with_reducible exact HB.out) | refine bl1 ?_ | (with_reducible refine bset ?_ ‹_›) | exact HB.out) hb); (try clear hb); (try clear hb2); (try clear hk); (try clear hi)) | ((with_reducible refine gate_callee (f := 5) rfl ?_); refine goesL_ (some 10) rfl rfl Tryd.func5 (by kernel_rfl) rfl #[.agg #[.int .i64 t664, .int .i64 t665], .agg #[.int .i64 t666, .int .i64 t667], .int .i64 3] rfl (by (try simp only [mp]); first | done | rfl | (simp only [ld]; rfl)) ?_; (with_reducible refine (span_Make.calls k t664 t665 t666 t667 3 t668 t669 t670 t671 t672 t673 t674 _ A6.out).mono ?_); rintro e w69 ⟨rfl, hb⟩; refine ⟨_, rfl, ?_⟩; replace BK663 := kb BK663 hb; replace HB := Aside0.mk (below_step (by repeat first | (with_reducible exact HB.out) | refine bl1 ?_ | (with_reducible refine bset ?_ ‹_›) | exact HB.out) hb); (try clear hb); (try clear hb2); (try clear hk); (try clear hi)) | ((with_reducible refine gate_dst (N := 2) rfl ?_); refine box_event ?hg (N := 2) ?hd (cs := #[.int .i64 0, .int .i64 0, .int .i64 0, .int .i64 0, .int .i64 0, .bool false, .bool false]) (t := 25) ?hr ?_; (case hd => rfl); (case hg => rfl); (case hr => first | (go_simp; done) | (go_simp; rfl)); intro gb675 hg w70 hbox hb; have BK675 := Aside0.mk (hbox); have GW675 := Aside0.mk ((by rw [hg]; exact (below_size (by repeat first | (with_reducible exact HB.out) | refine bl1 ?_ | (with_reducible refine bset ?_ ‹_›) | exact HB.out)) : w.heap.size ≤ gb675)); have GE675 := Aside0.mk ((by rw [hg]; exact (below_size (by repeat first | (with_reducible exact HB.out) | refine bl1 ?_ | (with_reducible refine bset ?_ ‹_›) | exact HB.out)) : w.heap.size ≤ gb675)); have NB663_675 := nlk hg BK663; have NB675_663 := ngk hg BK663; replace BK663 := kb BK663 hb; replace HB := Aside0.mk (below_step (by repeat first | (with_reducible exact HB.out) | refine bl1 ?_ | (with_reducible refine bset ?_ ‹_›) | exact HB.out) hb); clear hb hbox hg; have hnb71 := NB675_663.out; have hnc71 := NB663_675.out; obtain ⟨hcz72_0, hcz72_1, hcz72_2, hcz72_3, hcz72_4, hcz72_5, hcz72_6⟩ := bc7 BK675.out; obtain ⟨hfz72_0, hfz72_1, hfz72_2, hfz72_3, hfz72_4, hfz72_5, hfz72_6⟩ := bf7 BK675.out; obtain ⟨hcz73_0, hcz73_1, hcz73_2, hcz73_3, hcz73_4, hcz73_5, hcz73_6⟩ := bc7 BK663.out; obtain ⟨hfz73_0, hfz73_1, hfz73_2, hfz73_3, hfz73_4, hfz73_5, hfz73_6⟩ := bf7 BK663.out) | ((with_reducible refine gate_dst (N := 14) rfl ?_); refine Kd.R_lit k25 _ 25 ?hg (N := 14) ?hd (xs := ([(⟨(⟨t656, t657⟩ : S23), (⟨t658, t659⟩ : S23), t660, t661, t662⟩ : S25), (⟨(⟨t668, t669⟩ : S23), (⟨t670, t671⟩ : S23), t672, t673, t674⟩ : S25)] : List (S25))) (inner := [.int .i64 t656, .int .i64 t657, .int .i64 t658, .int .i64 t659, .int .i64 t660, .bool t661, .bool t662, .int .i64 t668, .int .i64 t669, .int .i64 t670, .int .i64 t671, .int .i64 t672, .bool t673, .bool t674]) (ok := fun _ => True) (okp := fun _ => True) ?hr ?hp (fun _ hk => hk) trivial (Below.refl _ _) (Nat.le_refl _) (by simp) ?_; (case hd => rfl); (case hg => rfl); (case hr => first | (go_simp; done) | (go_simp; rfl)); (case hp => exact (Reps.c7 (show Kd.M k25 _ _ _ (⟨(⟨t656, t657⟩ : S23), (⟨t658, t659⟩ : S23), t660, t661, t662⟩ : S25) [.int .i64 t656, .int .i64 t657, .int .i64 t658, .int .i64 t659, .int .i64 t660, .bool t661, .bool t662] from (k25_mkM _ _ _ (⟨(⟨t656, t657⟩ : S23), (⟨t658, t659⟩ : S23), t660, t661, t662⟩ : S25) )) (Reps.c7 (show Kd.M k25 _ _ _ (⟨(⟨t668, t669⟩ : S23), (⟨t670, t671⟩ : S23), t672, t673, t674⟩ : S25) [.int .i64 t668, .int .i64 t669, .int .i64 t670, .int .i64 t671, .int .i64 t672, .bool t673, .bool t674] from (k25_mkM _ _ _ (⟨(⟨t668, t669⟩ : S23), (⟨t670, t671⟩ : S23), t672, t673, t674⟩ : S25) )) (Reps.none _ _)))); intro v677 w74 ho75 hb hg_ hnew_; clear hg_ hnew_; (first | rw [← Ny676.out] at ho75 | (simp only [Int.reduceToNat] at ho75; rw [← Ny676.out] at ho75)); have HO678 := Aside0.mk (Kd.R_lower (Kd.R_newB (Kd.R_newB ho75 (g := gb663) (o := .cells #[.int .i64 t656, .int .i64 t657, .int .i64 t658, .int .i64 t659, .int .i64 t660, .bool t661, .bool t662] 25 (0, 0)) (by refine bk ?_; refine blk_far ?_ NB663_675.out _; refine bk ?_; refine blk_far ?_ NB663_675.out _; refine bk ?_; refine blk_far ?_ NB663_675.out _; refine bk ?_; refine blk_far ?_ NB663_675.out _; refine bk ?_; refine blk_far ?_ NB663_675.out _; refine bk ?_; refine blk_far ?_ NB663_675.out _; refine bk ?_; refine blk_far ?_ NB663_675.out _; refine bk ?_; exact BK663.out)) (g := gb675) (o := .cells #[.int .i64 t668, .int .i64 t669, .int .i64 t670, .int .i64 t671, .int .i64 t672, .bool t673, .bool t674] 25 (0, 0)) (by exact rq BK675.out (by rfl))) (below_size (by repeat first | (with_reducible exact HB.out) | refine bl1 ?_ | (with_reducible refine bset ?_ ‹_›) | exact HB.out))); replace BK663 := Aside0.mk (blk_below (g := gb663) (o := .cells #[.int .i64 t656, .int .i64 t657, .int .i64 t658, .int .i64 t659, .int .i64 t660, .bool t661, .bool t662] 25 (0, 0)) (by refine bk ?_; refine blk_far ?_ NB663_675.out _; refine bk ?_; refine blk_far ?_ NB663_675.out _; refine bk ?_; refine blk_far ?_ NB663_675.out _; refine bk ?_; refine blk_far ?_ NB663_675.out _; refine bk ?_; refine blk_far ?_ NB663_675.out _; refine bk ?_; refine blk_far ?_ NB663_675.out _; refine bk ?_; refine blk_far ?_ NB663_675.out _; refine bk ?_; exact BK663.out) hb); replace BK675 := Aside0.mk (blk_below (g := gb675) (o := .cells #[.int .i64 t668, .int .i64 t669, .int .i64 t670, .int .i64 t671, .int .i64 t672, .bool t673, .bool t674] 25 (0, 0)) (by exact rq BK675.out (by rfl)) hb); replace HB := Aside0.mk (below_step (by repeat first | (with_reducible exact HB.out) | refine bl1 ?_ | (with_reducible refine bset ?_ ‹_›) | exact HB.out) hb); clear hb ho75; obtain ⟨Ao76, co76, eo76⟩ := Kd.R_slice HO678.out; subst eo76) | ((with_reducible refine gate_callee (f := 22) rfl ?_); refine goesL_ (some 15) rfl rfl Tryd.func22 (by kernel_rfl) rfl #[.string (⟨#[97, 100, 100]⟩ : ByteArray), .slice Ao76 y676.length co76] rfl (by (try simp only [mp]); first | done | rfl | (simp only [ld]; rfl)) ?_; (with_reducible refine (span_Op.calls k (⟨#[97, 100, 100]⟩ : ByteArray) _ _ y676 t679 t680 t681 t682 t683 t684 t685 t686 _ ?side1 ?side2 A7.out).mono ?_); (case side1 => repeat (first | exact (Kd.R_reads' HO678.out).2.2 | (with_reducible refine Kd.C_alloc ?_ _) | (with_reducible refine Kd.C_drewN ?_ _) | (with_reducible refine Kd.C_drew ?_))); (case side2 => exact (Kd.R_reads' HO678.out).2.1); rintro e w77 ⟨rfl, hb⟩; refine ⟨_, rfl, ?_⟩; replace HO678 := Aside0.mk (Kd.R_below (by (with_reducible repeat (first | apply Kd.R_alloc | apply Kd.R_drewN | apply Kd.R_drew)); exact HO678.out) hb); replace BK663 := kb BK663 hb; replace BK675 := kb BK675 hb; replace HB := Aside0.mk (below_step (by repeat first | (with_reducible exact HB.out) | refine bl1 ?_ | (with_reducible refine bset ?_ ‹_›) | exact HB.out) hb); (try clear hb); (try clear hb2); (try clear hk); (try clear hi)) | ((with_reducible refine gate_dst (N := 3) rfl ?_); refine box_event ?hg (N := 3) ?hd (cs := #[.int .i64 0, .int .i64 0, .int .i64 0, .int .i64 0, .int .i64 0, .bool false, .bool false]) (t := 25) ?hr ?_; (case hd => rfl); (case hg => rfl); (case hr => first | (go_simp; done) | (go_simp; rfl)); intro gb687 hg w78 hbox hb; have BK687 := Aside0.mk (hbox); have GW687 := Aside0.mk ((by rw [hg]; exact (below_size (by repeat first | (with_reducible exact HB.out) | refine bl1 ?_ | (with_reducible refine bset ?_ ‹_›) | exact HB.out)) : w.heap.size ≤ gb687)); have GE687 := Aside0.mk ((by rw [hg]; exact (below_size (by repeat first | (with_reducible exact HB.out) | refine bl1 ?_ | (with_reducible refine bset ?_ ‹_›) | exact HB.out)) : w.heap.size ≤ gb687)); have NB663_687 := nlk hg BK663; have NB687_663 := ngk hg BK663; have NB675_687 := nlk hg BK675; have NB687_675 := ngk hg BK675; replace HO678 := Aside0.mk (Kd.R_below (Kd.R_elderB (by (with_reducible repeat (first | apply Kd.R_alloc | apply Kd.R_drewN | apply Kd.R_drew)); exact HO678.out) gb687 (Nat.le_of_eq hg.symm)) hb); replace BK663 := kb BK663 hb; replace BK675 := kb BK675 hb; replace HB := Aside0.mk (below_step (by repeat first | (with_reducible exact HB.out) | refine bl1 ?_ | (with_reducible refine bset ?_ ‹_›) | exact HB.out) hb); clear hb hbox hg; have hnb79 := NB687_663.out; have hnc79 := NB663_687.out; have hnb80 := NB687_675.out; have hnc80 := NB675_687.out; obtain ⟨hcz81_0, hcz81_1, hcz81_2, hcz81_3, hcz81_4, hcz81_5, hcz81_6⟩ := bc7 BK687.out; obtain ⟨hfz81_0, hfz81_1, hfz81_2, hfz81_3, hfz81_4, hfz81_5, hfz81_6⟩ := bf7 BK687.out) | (go_at_call 23; (with_reducible refine (span_Text.calls k t679 t680 t681 t682 t683 t684 t685 t688 _ A9.out).mono ?_); rintro e w82 ⟨rfl, hb⟩; replace HO678 := Aside0.mk (Kd.R_below (by (with_reducible repeat (first | apply Kd.R_alloc | apply Kd.R_drewN | apply Kd.R_drew)); exact (Kd.R_mono (Kd.R_far (p := ⟨gb687, 6, none⟩) (Kd.R_far (p := ⟨gb687, 5, none⟩) (Kd.R_far (p := ⟨gb687, 4, none⟩) (Kd.R_far (p := ⟨gb687, 3, none⟩) (Kd.R_far (p := ⟨gb687, 2, none⟩) (Kd.R_far (p := ⟨gb687, 1, none⟩) (Kd.R_far (p := ⟨gb687, 0, none⟩) (Kd.R_mono HO678.out (fun k_ hk => (⟨hk, hk.2⟩ : _ ∧ k_ ≠ gb687))) (fun _ hk => hk.2) (.int .i64 t679)) (fun _ hk => hk.2) (.int .i64 t680)) (fun _ hk => hk.2) (.int .i64 t681)) (fun _ hk => hk.2) (.int .i64 t682)) (fun _ hk => hk.2) (.int .i64 t683)) (fun _ hk => hk.2) (.bool t684)) (fun _ hk => hk.2) (.bool t685)) (fun _ h_ => h_.1))) hb); replace BK663 := Aside0.mk (blk_below (g := gb663) (o := .cells #[.int .i64 t656, .int .i64 t657, .int .i64 t658, .int .i64 t659, .int .i64 t660, .bool t661, .bool t662] 25 (0, 0)) (by refine bk ?_; refine blk_far ?_ NB663_687.out _; refine bk ?_; refine blk_far ?_ NB663_687.out _; refine bk ?_; refine blk_far ?_ NB663_687.out _; refine bk ?_; refine blk_far ?_ NB663_687.out _; refine bk ?_; refine blk_far ?_ NB663_687.out _; refine bk ?_; refine blk_far ?_ NB663_687.out _; refine bk ?_; refine blk_far ?_ NB663_687.out _; refine bk ?_; exact BK663.out) hb); replace BK675 := Aside0.mk (blk_below (g := gb675) (o := .cells #[.int .i64 t668, .int .i64 t669, .int .i64 t670, .int .i64 t671, .int .i64 t672, .bool t673, .bool t674] 25 (0, 0)) (by refine bk ?_; refine blk_far ?_ NB675_687.out _; refine bk ?_; refine blk_far ?_ NB675_687.out _; refine bk ?_; refine blk_far ?_ NB675_687.out _; refine bk ?_; refine blk_far ?_ NB675_687.out _; refine bk ?_; refine blk_far ?_ NB675_687.out _; refine bk ?_; refine blk_far ?_ NB675_687.out _; refine bk ?_; refine blk_far ?_ NB675_687.out _; refine bk ?_; exact BK675.out) hb); replace BK687 := Aside0.mk (blk_below (g := gb687) (o := .cells #[.int .i64 t679, .int .i64 t680, .int .i64 t681, .int .i64 t682, .int .i64 t683, .bool t684, .bool t685] 25 (0, 0)) (by exact rq BK687.out (by rfl)) hb); replace HB := Aside0.mk (below_step (by repeat first | (with_reducible exact HB.out) | refine bl1 ?_ | (with_reducible refine bset ?_ ‹_›) | exact HB.out) hb); (try clear hb); (try clear hb2); (try clear hk); (try clear hi))); go_ret; exact ⟨by first | rfl | (simp [errW_none, errW_some] <;> rfl) | (simp [*, errW_none, errW_some] <;> rfl), by repeat first | (with_reducible exact HB.out) | (with_reducible refine bset ?_ ‹_›) | refine bl1 ?_ | exact HB.out⟩
 · rw [if_neg c8] at H; have c8b0 : (t686 == 0) = false := beq_eq_false_iff_ne.mpr c8; have c8b1 : (t686 != 0) = true := bne_iff_ne.mpr c8; obtain rfl := Option.some.inj H; go_enter Tryd.func7, Tryd.ntmps7; go_wp2_with (first | ((with_reducible refine gate_callee (f := 21) rfl ?_); refine goesL_ (some 5) rfl rfl Tryd.func21 (by kernel_rfl) rfl #[.int .i64 0] rfl (by (try simp only [mp]); first | done | rfl | (simp only [ld]; rfl)) ?_; (with_reducible refine (serinetteref01_Whole.calls k 0 t652 t653 _ A1.out).mono ?_); rintro e w83 ⟨rfl, hb⟩; refine ⟨_, rfl, ?_⟩; replace HB := hs HB hb; (try clear hb); (try clear hb2); (try clear hk); (try clear hi)) | ((with_reducible refine gate_callee (f := 21) rfl ?_); refine goesL_ (some 6) rfl rfl Tryd.func21 (by kernel_rfl) rfl #[.int .i64 1] rfl (by (try simp only [mp]); first | done | rfl | (simp only [ld]; rfl)) ?_; (with_reducible refine (serinetteref01_Whole.calls k 1 t654 t655 _ A2.out).mono ?_); rintro e w84 ⟨rfl, hb⟩; refine ⟨_, rfl, ?_⟩; replace HB := hs HB hb; (try clear hb); (try clear hb2); (try clear hk); (try clear hi)) | ((with_reducible refine gate_callee (f := 5) rfl ?_); refine goesL_ (some 7) rfl rfl Tryd.func5 (by kernel_rfl) rfl #[.agg #[.int .i64 t652, .int .i64 t653], .agg #[.int .i64 t654, .int .i64 t655], .int .i64 2] rfl (by (try simp only [mp]); first | done | rfl | (simp only [ld]; rfl)) ?_; (with_reducible refine (span_Make.calls k t652 t653 t654 t655 2 t656 t657 t658 t659 t660 t661 t662 _ A3.out).mono ?_); rintro e w85 ⟨rfl, hb⟩; refine ⟨_, rfl, ?_⟩; replace HB := hs HB hb; (try clear hb); (try clear hb2); (try clear hk); (try clear hi)) | ((with_reducible refine gate_dst (N := 1) rfl ?_); refine box_event ?hg (N := 1) ?hd (cs := #[.int .i64 0, .int .i64 0, .int .i64 0, .int .i64 0, .int .i64 0, .bool false, .bool false]) (t := 25) ?hr ?_; (case hd => rfl); (case hg => rfl); (case hr => first | (go_simp; done) | (go_simp; rfl)); intro gb663 hg w86 hbox hb; have BK663 := Aside0.mk (hbox); have GW663 := hz_ hg HB; have GE663 := hz_ hg HB; replace HB := hs HB hb; clear hb hbox hg; obtain ⟨hcz87_0, hcz87_1, hcz87_2, hcz87_3, hcz87_4, hcz87_5, hcz87_6⟩ := bc7 BK663.out; obtain ⟨hfz87_0, hfz87_1, hfz87_2, hfz87_3, hfz87_4, hfz87_5, hfz87_6⟩ := bf7 BK663.out) | ((with_reducible refine gate_callee (f := 21) rfl ?_); refine goesL_ (some 8) rfl rfl Tryd.func21 (by kernel_rfl) rfl #[.int .i64 0] rfl (by (try simp only [mp]); first | done | rfl | (simp only [ld]; rfl)) ?_; (with_reducible refine (serinetteref01_Whole.calls k 0 t664 t665 _ A4.out).mono ?_); rintro e w88 ⟨rfl, hb⟩; refine ⟨_, rfl, ?_⟩; replace BK663 := Aside0.mk (blk_below (g := gb663) (o := .cells #[.int .i64 t656, .int .i64 t657, .int .i64 t658, .int .i64 t659, .int .i64 t660, .bool t661, .bool t662] 25 (0, 0)) (by exact rq BK663.out (by rfl)) hb); replace HB := Aside0.mk (below_step (by repeat first | (with_reducible exact HB.out) | refine bl1 ?_ | (with_reducible refine bset ?_ ‹_›) | exact HB.out) hb); (try clear hb); (try clear hb2); (try clear hk); (try clear hi)) | ((with_reducible refine gate_callee (f := 21) rfl ?_); refine goesL_ (some 9) rfl rfl Tryd.func21 (by kernel_rfl) rfl #[.int .i64 1] rfl (by (try simp only [mp]); first | done | rfl | (simp only [ld]; rfl)) ?_; (with_reducible refine (serinetteref01_Whole.calls k 1 t666 t667 _ A5.out).mono ?_); rintro e w89 ⟨rfl, hb⟩; refine ⟨_, rfl, ?_⟩; replace BK663 := kb BK663 hb; replace HB := Aside0.mk (below_step (by repeat first | (with_reducible exact HB.out) | refine bl1 ?_ | (with_reducible refine bset ?_ ‹_›) | exact HB.out) hb); (try clear hb); (try clear hb2); (try clear hk); (try clear hi)) | ((with_reducible refine gate_callee (f := 5) rfl ?_); refine goesL_ (some 10) rfl rfl Tryd.func5 (by kernel_rfl) rfl #[.agg #[.int .i64 t664, .int .i64 t665], .agg #[.int .i64 t666, .int .i64 t667], .int .i64 3] rfl (by (try simp only [mp]); first | done | rfl | (simp only [ld]; rfl)) ?_; (with_reducible refine (span_Make.calls k t664 t665 t666 t667 3 t668 t669 t670 t671 t672 t673 t674 _ A6.out).mono ?_); rintro e w90 ⟨rfl, hb⟩; refine ⟨_, rfl, ?_⟩; replace BK663 := kb BK663 hb; replace HB := Aside0.mk (below_step (by repeat first | (with_reducible exact HB.out) | refine bl1 ?_ | (with_reducible refine bset ?_ ‹_›) | exact HB.out) hb); (try clear hb); (try clear hb2); (try clear hk); (try clear hi)) | ((with_reducible refine gate_dst (N := 2) rfl ?_); refine box_event ?hg (N := 2) ?hd (cs := #[.int .i64 0, .int .i64 0, .int .i64 0, .int .i64 0, .int .i64 0, .bool false, .bool false]) (t := 25) ?hr ?_; (case hd => rfl); (case hg => rfl); (case hr => first | (go_simp; done) | (go_simp; rfl)); intro gb675 hg w91 hbox hb; have BK675 := Aside0.mk (hbox); have GW675 := Aside0.mk ((by rw [hg]; exact (below_size (by repeat first | (with_reducible exact HB.out) | refine bl1 ?_ | (with_reducible refine bset ?_ ‹_›) | exact HB.out)) : w.heap.size ≤ gb675)); have GE675 := Aside0.mk ((by rw [hg]; exact (below_size (by repeat first | (with_reducible exact HB.out) | refine bl1 ?_ | (with_reducible refine bset ?_ ‹_›) | exact HB.out)) : w.heap.size ≤ gb675)); have NB663_675 := nlk hg BK663; have NB675_663 := ngk hg BK663; replace BK663 := kb BK663 hb; replace HB := Aside0.mk (below_step (by repeat first | (with_reducible exact HB.out) | refine bl1 ?_ | (with_reducible refine bset ?_ ‹_›) | exact HB.out) hb); clear hb hbox hg; have hnb92 := NB675_663.out; have hnc92 := NB663_675.out; obtain ⟨hcz93_0, hcz93_1, hcz93_2, hcz93_3, hcz93_4, hcz93_5, hcz93_6⟩ := bc7 BK675.out; obtain ⟨hfz93_0, hfz93_1, hfz93_2, hfz93_3, hfz93_4, hfz93_5, hfz93_6⟩ := bf7 BK675.out; obtain ⟨hcz94_0, hcz94_1, hcz94_2, hcz94_3, hcz94_4, hcz94_5, hcz94_6⟩ := bc7 BK663.out; obtain ⟨hfz94_0, hfz94_1, hfz94_2, hfz94_3, hfz94_4, hfz94_5, hfz94_6⟩ := bf7 BK663.out) | ((with_reducible refine gate_dst (N := 14) rfl ?_); refine Kd.R_lit k25 _ 25 ?hg (N := 14) ?hd (xs := ([(⟨(⟨t656, t657⟩ : S23), (⟨t658, t659⟩ : S23), t660, t661, t662⟩ : S25), (⟨(⟨t668, t669⟩ : S23), (⟨t670, t671⟩ : S23), t672, t673, t674⟩ : S25)] : List (S25))) (inner := [.int .i64 t656, .int .i64 t657, .int .i64 t658, .int .i64 t659, .int .i64 t660, .bool t661, .bool t662, .int .i64 t668, .int .i64 t669, .int .i64 t670, .int .i64 t671, .int .i64 t672, .bool t673, .bool t674]) (ok := fun _ => True) (okp := fun _ => True) ?hr ?hp (fun _ hk => hk) trivial (Below.refl _ _) (Nat.le_refl _) (by simp) ?_; (case hd => rfl); (case hg => rfl); (case hr => first | (go_simp; done) | (go_simp; rfl)); (case hp => exact (Reps.c7 (show Kd.M k25 _ _ _ (⟨(⟨t656, t657⟩ : S23), (⟨t658, t659⟩ : S23), t660, t661, t662⟩ : S25) [.int .i64 t656, .int .i64 t657, .int .i64 t658, .int .i64 t659, .int .i64 t660, .bool t661, .bool t662] from (k25_mkM _ _ _ (⟨(⟨t656, t657⟩ : S23), (⟨t658, t659⟩ : S23), t660, t661, t662⟩ : S25) )) (Reps.c7 (show Kd.M k25 _ _ _ (⟨(⟨t668, t669⟩ : S23), (⟨t670, t671⟩ : S23), t672, t673, t674⟩ : S25) [.int .i64 t668, .int .i64 t669, .int .i64 t670, .int .i64 t671, .int .i64 t672, .bool t673, .bool t674] from (k25_mkM _ _ _ (⟨(⟨t668, t669⟩ : S23), (⟨t670, t671⟩ : S23), t672, t673, t674⟩ : S25) )) (Reps.none _ _)))); intro v677 w95 ho96 hb hg_ hnew_; clear hg_ hnew_; (first | rw [← Ny676.out] at ho96 | (simp only [Int.reduceToNat] at ho96; rw [← Ny676.out] at ho96)); have HO678 := Aside0.mk (Kd.R_lower (Kd.R_newB (Kd.R_newB ho96 (g := gb663) (o := .cells #[.int .i64 t656, .int .i64 t657, .int .i64 t658, .int .i64 t659, .int .i64 t660, .bool t661, .bool t662] 25 (0, 0)) (by refine bk ?_; refine blk_far ?_ NB663_675.out _; refine bk ?_; refine blk_far ?_ NB663_675.out _; refine bk ?_; refine blk_far ?_ NB663_675.out _; refine bk ?_; refine blk_far ?_ NB663_675.out _; refine bk ?_; refine blk_far ?_ NB663_675.out _; refine bk ?_; refine blk_far ?_ NB663_675.out _; refine bk ?_; refine blk_far ?_ NB663_675.out _; refine bk ?_; exact BK663.out)) (g := gb675) (o := .cells #[.int .i64 t668, .int .i64 t669, .int .i64 t670, .int .i64 t671, .int .i64 t672, .bool t673, .bool t674] 25 (0, 0)) (by exact rq BK675.out (by rfl))) (below_size (by repeat first | (with_reducible exact HB.out) | refine bl1 ?_ | (with_reducible refine bset ?_ ‹_›) | exact HB.out))); replace BK663 := Aside0.mk (blk_below (g := gb663) (o := .cells #[.int .i64 t656, .int .i64 t657, .int .i64 t658, .int .i64 t659, .int .i64 t660, .bool t661, .bool t662] 25 (0, 0)) (by refine bk ?_; refine blk_far ?_ NB663_675.out _; refine bk ?_; refine blk_far ?_ NB663_675.out _; refine bk ?_; refine blk_far ?_ NB663_675.out _; refine bk ?_; refine blk_far ?_ NB663_675.out _; refine bk ?_; refine blk_far ?_ NB663_675.out _; refine bk ?_; refine blk_far ?_ NB663_675.out _; refine bk ?_; refine blk_far ?_ NB663_675.out _; refine bk ?_; exact BK663.out) hb); replace BK675 := Aside0.mk (blk_below (g := gb675) (o := .cells #[.int .i64 t668, .int .i64 t669, .int .i64 t670, .int .i64 t671, .int .i64 t672, .bool t673, .bool t674] 25 (0, 0)) (by exact rq BK675.out (by rfl)) hb); replace HB := Aside0.mk (below_step (by repeat first | (with_reducible exact HB.out) | refine bl1 ?_ | (with_reducible refine bset ?_ ‹_›) | exact HB.out) hb); clear hb ho96; obtain ⟨Ao97, co97, eo97⟩ := Kd.R_slice HO678.out; subst eo97) | ((with_reducible refine gate_callee (f := 22) rfl ?_); refine goesL_ (some 15) rfl rfl Tryd.func22 (by kernel_rfl) rfl #[.string (⟨#[97, 100, 100]⟩ : ByteArray), .slice Ao97 y676.length co97] rfl (by (try simp only [mp]); first | done | rfl | (simp only [ld]; rfl)) ?_; (with_reducible refine (span_Op.calls k (⟨#[97, 100, 100]⟩ : ByteArray) _ _ y676 t679 t680 t681 t682 t683 t684 t685 t686 _ ?side1 ?side2 A7.out).mono ?_); (case side1 => repeat (first | exact (Kd.R_reads' HO678.out).2.2 | (with_reducible refine Kd.C_alloc ?_ _) | (with_reducible refine Kd.C_drewN ?_ _) | (with_reducible refine Kd.C_drew ?_))); (case side2 => exact (Kd.R_reads' HO678.out).2.1); rintro e w98 ⟨rfl, hb⟩; refine ⟨_, rfl, ?_⟩; replace HO678 := Aside0.mk (Kd.R_below (by (with_reducible repeat (first | apply Kd.R_alloc | apply Kd.R_drewN | apply Kd.R_drew)); exact HO678.out) hb); replace BK663 := kb BK663 hb; replace BK675 := kb BK675 hb; replace HB := Aside0.mk (below_step (by repeat first | (with_reducible exact HB.out) | refine bl1 ?_ | (with_reducible refine bset ?_ ‹_›) | exact HB.out) hb); (try clear hb); (try clear hb2); (try clear hk); (try clear hi)) | ((with_reducible refine gate_dst (N := 3) rfl ?_); refine box_event ?hg (N := 3) ?hd (cs := #[.int .i64 0, .int .i64 0, .int .i64 0, .int .i64 0, .int .i64 0, .bool false, .bool false]) (t := 25) ?hr ?_; (case hd => rfl); (case hg => rfl); (case hr => first | (go_simp; done) | (go_simp; rfl)); intro gb687 hg w99 hbox hb; have BK687 := Aside0.mk (hbox); have GW687 := Aside0.mk ((by rw [hg]; exact (below_size (by repeat first | (with_reducible exact HB.out) | refine bl1 ?_ | (with_reducible refine bset ?_ ‹_›) | exact HB.out)) : w.heap.size ≤ gb687)); have GE687 := Aside0.mk ((by rw [hg]; exact (below_size (by repeat first | (with_reducible exact HB.out) | refine bl1 ?_ | (with_reducible refine bset ?_ ‹_›) | exact HB.out)) : w.heap.size ≤ gb687)); have NB663_687 := nlk hg BK663; have NB687_663 := ngk hg BK663; have NB675_687 := nlk hg BK675; have NB687_675 := ngk hg BK675; replace HO678 := Aside0.mk (Kd.R_below (Kd.R_elderB (by (with_reducible repeat (first | apply Kd.R_alloc | apply Kd.R_drewN | apply Kd.R_drew)); exact HO678.out) gb687 (Nat.le_of_eq hg.symm)) hb); replace BK663 := kb BK663 hb; replace BK675 := kb BK675 hb; replace HB := Aside0.mk (below_step (by repeat first | (with_reducible exact HB.out) | refine bl1 ?_ | (with_reducible refine bset ?_ ‹_›) | exact HB.out) hb); clear hb hbox hg; have hnb100 := NB687_663.out; have hnc100 := NB663_687.out; have hnb101 := NB687_675.out; have hnc101 := NB675_687.out; obtain ⟨hcz102_0, hcz102_1, hcz102_2, hcz102_3, hcz102_4, hcz102_5, hcz102_6⟩ := bc7 BK687.out; obtain ⟨hfz102_0, hfz102_1, hfz102_2, hfz102_3, hfz102_4, hfz102_5, hfz102_6⟩ := bf7 BK687.out)); go_ret; exact ⟨by first | rfl | (simp [errW_none, errW_some] <;> rfl) | (simp [*, errW_none, errW_some] <;> rfl), by repeat first | (with_reducible exact HB.out) | (with_reducible refine bset ?_ ‹_›) | refine bl1 ?_ | exact HB.out⟩
def serinettelaw03_SpanMakes.f (k : Nat) (a0_0 : Int) (a0_1 : Int) (a1_0 : Int) (a1_1 : Int) (a2 : Int) : Option (Bool) := (span_Make.f k a0_0 a0_1 a1_0 a1_1 a2).bind fun bt693 => ((serinetteref03_Make.f k a0_0 a0_1 a1_0 a1_1 a2).bind fun bt700 => (if ((bt693.1 == bt700.1 && (bt693.2.1 == bt700.2.1)) && ((bt693.2.2.1 == bt700.2.2.1 && (bt693.2.2.2.1 == bt700.2.2.2.1)) && (bt693.2.2.2.2.1 == bt700.2.2.2.2.1 && (bt693.2.2.2.2.2.1 == bt700.2.2.2.2.2.1 && (bt693.2.2.2.2.2.2 == bt700.2.2.2.2.2.2))))) = true then ((serinettelaw03_awake.f k).bind fun t707 => (some t707)) else (some false)))
theorem serinettelaw03_SpanMakes.mono : ∀ a0 a1 a2 a3 a4 k, LeO (serinettelaw03_SpanMakes.f k a0 a1 a2 a3 a4) (serinettelaw03_SpanMakes.f (k + 1) a0 a1 a2 a3 a4) := by
 intro a0 a1 a2 a3 a4 k
 unfold serinettelaw03_SpanMakes.f
 repeat' first
   | (with_reducible exact serinettelaw03_awake.mono _)
   | (with_reducible exact serinetteref03_Make.mono _ _ _ _ _ _)
   | (with_reducible exact span_Make.mono _ _ _ _ _ _)
   | (with_reducible exact LeO.refl _)
   | (with_reducible exact LeO.none _)
   | (with_reducible refine LeO.ite ?_ ?_)
   | (with_reducible refine LeO.bind ?_ (fun _ => ?_))
   | exact serinettelaw03_awake.mono _
   | exact serinetteref03_Make.mono _ _ _ _ _ _
   | exact span_Make.mono _ _ _ _ _ _
   | exact LeO.none _
   | refine LeO.ite ?_ ?_
   | refine LeO.bind ?_ (fun _ => ?_)
def serinettelaw03_SpanMakes.T1 : Bool × List (List Nat × List Nat) := (true, [([], []), ([], []), ([], []), ([0, 1, 2], [0, 1, 2]), ([], []), ([], []), ([], []), ([4, 5, 6, 3], [4, 5, 6]), ([3, 7], [3, 7]), ([8, 7], [8]), ([9, 9], [9]), ([9, 10], [9, 10]), ([11, 10, 0, 1, 2, 3, 4, 5, 6, 7, 8, 9, 10, 11], [11])])
def serinettelaw03_SpanMakes.B1 : List Nat := [0, 0, 0, 7, 0, 0, 0, 127, 255, 511, 1023, 2047, 4095]
theorem serinettelaw03_SpanMakes.tab1 : rtab .any (opsOf Tryd.f3 1) = serinettelaw03_SpanMakes.T1 := by kernel_rfl
theorem serinettelaw03_SpanMakes.bits1 : waitsOk serinettelaw03_SpanMakes.T1.2 serinettelaw03_SpanMakes.B1 = true := by kernel_rfl
set_option maxHeartbeats 8000000 in
set_option maxRecDepth 100000 in
theorem serinettelaw03_SpanMakes.calls (k : Nat) (a0_0 : Int) (a0_1 : Int) (a1_0 : Int) (a1_1 : Int) (a2 : Int) (r : Bool) (hr : Aside0 (r = true)) (w : World) (h : serinettelaw03_SpanMakes.f k a0_0 a0_1 a1_0 a1_1 a2 = some r) :
  Calls Tryd.prog 3 #[.agg #[.int .i64 a0_0, .int .i64 a0_1], .agg #[.int .i64 a1_0, .int .i64 a1_1], .int .i64 a2] w fun e w' => e = .returned (.bool r) ∧ Below w.heap.size w w' := by
 have hu23 := Tryd.underlying23; have HB := Aside0.mk (Below.refl w.heap.size w); have H : ((span_Make.f k a0_0 a0_1 a1_0 a1_1 a2).bind fun bt693 => ((serinetteref03_Make.f k a0_0 a0_1 a1_0 a1_1 a2).bind fun bt700 => (if ((bt693.1 == bt700.1 && (bt693.2.1 == bt700.2.1)) && ((bt693.2.2.1 == bt700.2.2.1 && (bt693.2.2.2.1 == bt700.2.2.2.1)) && (bt693.2.2.2.2.1 == bt700.2.2.2.2.1 && (bt693.2.2.2.2.2.1 == bt700.2.2.2.2.2.1 && (bt693.2.2.2.2.2.2 == bt700.2.2.2.2.2.2))))) = true then ((serinettelaw03_awake.f k).bind fun t707 => (some t707)) else (some false)))) = some r := h; clear h; replace H := Option.bind_eq_some_iff.mp H; obtain ⟨⟨t693, t694, t695, t696, t697, t698, t699⟩, A40, H⟩ := H; (try dsimp only at H); have A4 := Aside0.mk A40; clear A40; replace H := Option.bind_eq_some_iff.mp H; obtain ⟨⟨t700, t701, t702, t703, t704, t705, t706⟩, A50, H⟩ := H; (try dsimp only at H); have A5 := Aside0.mk A50; clear A50; by_cases c6 : ((t693 == t700 && (t694 == t701)) && ((t695 == t702 && (t696 == t703)) && (t697 == t704 && (t698 == t705 && (t699 == t706))))) = true
 ·
  rw [if_pos c6] at H; have c6b0 : ((t693 == t700 && (t694 == t701)) && ((t695 == t702 && (t696 == t703)) && (t697 == t704 && (t698 == t705 && (t699 == t706))))) = true := c6; clear c6; replace H := Option.bind_eq_some_iff.mp H; obtain ⟨t707, A70, H⟩ := H; (try dsimp only at H); have A7 := Aside0.mk A70; clear A70; obtain rfl := Option.some.inj H; go_enter Tryd.func3, Tryd.ntmps3; (try go_wp2_with (first | ((with_reducible refine gate_dst (N := 3) rfl ?_); refine box_event ?hg (N := 3) ?hd (cs := #[.int .i64 a0_0, .int .i64 a0_1]) (t := 23) ?hr ?_; (case hd => rfl); (case hg => rfl); (case hr => first | (go_simp; done) | (go_simp; rfl)); intro gb691 hg w8 hbox hb; have BK691 := Aside0.mk (hbox); have GW691 := hz_ hg HB; have GE691 := hz_ hg HB; replace HB := hs HB hb; clear hb hbox hg) | ((with_reducible refine gate_dst (N := 4) rfl ?_); refine box_event ?hg (N := 4) ?hd (cs := #[.int .i64 a1_0, .int .i64 a1_1]) (t := 23) ?hr ?_; (case hd => rfl); (case hg => rfl); (case hr => first | (go_simp; done) | (go_simp; rfl)); intro gb692 hg w9 hbox hb; have BK692 := Aside0.mk (hbox); have GW692 := Aside0.mk ((by rw [hg]; exact (below_size (by repeat first | (with_reducible exact HB.out) | refine bl1 ?_ | (with_reducible refine bset ?_ ‹_›) | exact HB.out)) : w.heap.size ≤ gb692)); have GE692 := Aside0.mk ((by rw [hg]; exact (below_size (by repeat first | (with_reducible exact HB.out) | refine bl1 ?_ | (with_reducible refine bset ?_ ‹_›) | exact HB.out)) : w.heap.size ≤ gb692)); have NB691_692 := nlk hg BK691; have NB692_691 := ngk hg BK691; replace BK691 := kb BK691 hb; replace HB := Aside0.mk (below_step (by repeat first | (with_reducible exact HB.out) | refine bl1 ?_ | (with_reducible refine bset ?_ ‹_›) | exact HB.out) hb); clear hb hbox hg))); replace BK691 := kd BK691; replace BK692 := kd BK692; replace HB := Aside0.mk (below_drew1 HB.out); refine start_ (n := 13) (S := fun w' => w'.cell? ⟨gb691, 0, none⟩ = some (.int .i64 a0_0) ∧ w'.cell? ⟨gb691, 1, none⟩ = some (.int .i64 a0_1) ∧ w'.cell? ⟨gb692, 0, none⟩ = some (.int .i64 a1_0) ∧ w'.cell? ⟨gb692, 1, none⟩ = some (.int .i64 a1_1)) (ds := []) (bA 13 0) (by kernel_rfl) rfl rfl ⟨(blk_cell BK691.out 0).trans rfl, (blk_cell BK691.out 1).trans rfl, (blk_cell BK692.out 0).trans rfl, (blk_cell BK692.out 1).trans rfl⟩ (fun hHeld => ?_); refine with_tabW serinettelaw03_SpanMakes.tab1 serinettelaw03_SpanMakes.bits1 (fun HT_ HW_ => ?_); generalize w9.drew = w10 at BK691 BK692 HB hHeld ⊢; have hH0 := hHeld; have HBW := hbw w10; refine pure_ (i := 2) (N := some 9) (v := ?_) (a' := ?_) (bA 13 4) rfl rfl (any_of HT_.out (by kernel_rfl)) (fun _ _ _ h => h) (Or.inl ⟨by rfl, ?_⟩) ?_ ?_; rotate_left
  · intro w'; go_simp; with_reducible rfl
  rotate_left
  · simp only [ap]; rfl
  refine pure_ (i := 6) (N := some 13) (v := ?_) (a' := ?_) (bA 13 68) rfl rfl (any_of HT_.out (by kernel_rfl)) (fun _ _ _ h => h) (Or.inl ⟨by rfl, ?_⟩) ?_ ?_; rotate_left
  · intro w'; go_simp; with_reducible rfl
  rotate_left
  · simp only [ap]; rfl
  refine take_ (i := 0) (N := some 7) (v := ?_) (a' := ?_) (bA 13 69) rfl rfl (take_ofW HT_.out HW_.out (by kernel_rfl)) (fun _ _ _ h => h) (Or.inl ⟨by rfl, ?_⟩) hHeld ?_ ?_; rotate_left
  · rintro w' ⟨s0, s1, s2, s3⟩; go_simp; with_reducible rfl
  rotate_left
  · simp only [ap]; rfl
  refine take_ (i := 1) (N := some 8) (v := ?_) (a' := ?_) (bA 13 71) rfl rfl (take_ofW HT_.out HW_.out (by kernel_rfl)) (fun _ _ _ h => h) (Or.inl ⟨by rfl, ?_⟩) hHeld ?_ ?_; rotate_left
  · rintro w' ⟨s0, s1, s2, s3⟩; go_simp; with_reducible rfl
  rotate_left
  · simp only [ap]; rfl
  refine take_ (i := 4) (N := some 11) (v := ?_) (a' := ?_) (bA 13 87) rfl rfl (take_ofW HT_.out HW_.out (by kernel_rfl)) (fun _ _ _ h => h) (Or.inl ⟨by rfl, ?_⟩) hHeld ?_ ?_; rotate_left
  · rintro w' ⟨s0, s1, s2, s3⟩; go_simp; with_reducible rfl
  rotate_left
  · simp only [ap]; rfl
  refine take_ (i := 5) (N := some 12) (v := ?_) (a' := ?_) (bA 13 119) rfl rfl (take_ofW HT_.out HW_.out (by kernel_rfl)) (fun _ _ _ h => h) (Or.inl ⟨by rfl, ?_⟩) hHeld ?_ ?_; rotate_left
  · rintro w' ⟨s0, s1, s2, s3⟩; go_simp; with_reducible rfl
  rotate_left
  · simp only [ap]; rfl
  refine one_ (i := 3) (N := some 10) (bA 13 127) rfl rfl (one_of HT_.out (by kernel_rfl)) (by decide) (fun K hK => ?_); refine goes_ Tryd.func5 (by kernel_rfl) rfl #[.agg #[.int .i64 a0_0, .int .i64 a0_1], .agg #[.int .i64 a1_0, .int .i64 a1_1], .int .i64 a2] (by rfl) rfl rfl (by (try simp only [mp]); first | done | rfl | (simp only [ld]; rfl)) ?_; (with_reducible refine (span_Make.calls k a0_0 a0_1 a1_0 a1_1 a2 t693 t694 t695 t696 t697 t698 t699 _ A4.out).mono ?_); rintro e w11 ⟨rfl, hb⟩; refine ⟨_, rfl, ?_⟩; replace HBW := hs HBW hb; clear hb; refine hK.out _ _ (hs4 HBW.out hH0) (fun hHeld => ?_); clear hK K; refine norm_ (a' := ?_) ?_ ?_; rotate_left
  · (show Act.put _ (some 10) _ = _); simp only [ap]; rfl
  refine one_ (i := 7) (N := some 14) (bA 13 255) rfl rfl (one_of HT_.out (by kernel_rfl)) (by decide) (fun K hK => ?_); refine goes_ Tryd.func6 (by kernel_rfl) rfl #[.agg #[.int .i64 a0_0, .int .i64 a0_1], .agg #[.int .i64 a1_0, .int .i64 a1_1], .int .i64 a2] (by rfl) rfl rfl (by (try simp only [mp]); first | done | rfl | (simp only [ld]; rfl)) ?_; (with_reducible refine (serinetteref03_Make.calls k a0_0 a0_1 a1_0 a1_1 a2 t700 t701 t702 t703 t704 t705 t706 _ A5.out).mono ?_); rintro e w12 ⟨rfl, hb⟩; refine ⟨_, rfl, ?_⟩; replace HBW := hs HBW hb; clear hb; refine hK.out _ _ (hs4 HBW.out hH0) (fun hHeld => ?_); clear hK K; refine norm_ (a' := ?_) ?_ ?_; rotate_left
  · (show Act.put _ (some 14) _ = _); simp only [ap]; rfl
  refine pure_ (i := 8) (N := some 15) (v := ?_) (a' := ?_) (bA 13 511) rfl rfl (any_of HT_.out (by kernel_rfl)) (fun _ _ _ h => h) (Or.inl ⟨by rfl, ?_⟩) ?_ ?_; rotate_left
  · intro w'; go_simp; with_reducible rfl
  rotate_left
  · simp only [ap]; rfl
  refine pure_ (i := 9) (N := some 16) (v := ?_) (a' := ?_) (bA 13 1023) rfl rfl (any_of HT_.out (by kernel_rfl)) (fun _ _ _ h => h) (Or.inl ⟨by rfl, ?_⟩) ?_ ?_; rotate_left
  · intro w'; go_simp; with_reducible rfl
  rotate_left
  · simp only [ap]; rfl
  refine one_ (i := 10) (N := some 17) (bA 13 2047) rfl rfl (one_of HT_.out (by kernel_rfl)) (by decide) (fun K hK => ?_); refine goes_ Tryd.func7 (by kernel_rfl) rfl #[] (by rfl) rfl rfl (by (try simp only [mp]); first | done | rfl | (simp only [ld]; rfl)) ?_; (with_reducible refine (serinettelaw03_awake.calls k  t707 _ A7.out).mono ?_); rintro e w13 ⟨rfl, hb⟩; refine ⟨_, rfl, ?_⟩; replace HBW := hs HBW hb; clear hb; refine hK.out _ _ (hs4 HBW.out hH0) (fun hHeld => ?_); clear hK K; refine norm_ (a' := ?_) ?_ ?_; rotate_left
  · (show Act.put _ (some 17) _ = _); simp only [ap]; rfl
  refine pure_ (i := 11) (N := some 18) (v := ?_) (a' := ?_) (bA 13 4095) rfl rfl (any_of HT_.out (by kernel_rfl)) (fun _ _ _ h => h) (Or.inl ⟨by rfl, ?_⟩) ?_ ?_; rotate_left
  · intro w'; go_simp; with_reducible rfl
  rotate_left
  · simp only [ap]; rfl
  refine pure_ (i := 12) (N := some 6) (v := ?_) (a' := ?_) (bA 13 8191) rfl rfl (any_of HT_.out (by kernel_rfl)) (fun _ _ _ h => h) (Or.inl ⟨by rfl, ?_⟩) ?_ ?_; rotate_left
  · intro w'; go_simp; with_reducible rfl
  rotate_left
  · simp only [ap]; rfl
  replace BK691 := kb BK691 HBW.out; replace BK692 := kb BK692 HBW.out; replace HB := hs HB HBW.out; refine done_ (done_of HT_.out (by kernel_rfl)) ?_; clear HBW hH0; (try go_wp2); go_ret; exact ⟨by first | rfl | (simp [errW_none, errW_some] <;> rfl) | (simp [*, errW_none, errW_some] <;> rfl), by repeat first | (with_reducible exact HB.out) | (with_reducible refine bset ?_ ‹_›) | refine bl1 ?_ | exact HB.out⟩
 · rw [if_neg c6] at H; (have c6b0 : ((t693 == t700 && (t694 == t701)) && ((t695 == t702 && (t696 == t703)) && (t697 == t704 && (t698 == t705 && (t699 == t706))))) = false := by simpa using c6); clear c6; exact absurd (H.trans (congrArg some hr.out)) (by simp)
end Go.Proofs.YtlibjgmnookakaaDoor.SSpanMakes
namespace Go.Proofs.YtlibjgmnookakaaDoor.SSpanMakes
open Go.RowKit Go.Proofs.YtlibjgmnookakaaDoor.Wd.PrintWords Go.Proofs.YtlibjgmnookakaaDoor.Plain
theorem w64 {n : Int} (h : I64 n) : wrap64 n = n := by unfold I64 at h; unfold wrap64; omega
theorem wu64 (n : Int) : IntKind.u64.wrap n = n % 18446744073709551616 := by simp [IntKind.wrap, IntKind.bits, IntKind.signed]
theorem ev_pos {α : Type} {c : Prop} [Decidable c] {f g : Nat → Option α} {r : α} (h : c) (k : Ev f r) : Ev (fun n => if c then f n else g n) r := by simpa only [if_pos h] using k
theorem ev_neg {α : Type} {c : Prop} [Decidable c] {f g : Nat → Option α} {r : α} (h : ¬ c) (k : Ev g r) : Ev (fun n => if c then f n else g n) r := by simpa only [if_neg h] using k
theorem ev_const {α : Type} {x : Option α} {r : α} (h : x = some r) : Ev (fun _ => x) r := ⟨0, fun _ _ => h⟩
theorem ev_bind {α β : Type} {x : Option α} {f : Nat → α → Option β} {a : α} {r : β} (h : x = some a) (k : Ev (fun n => f n a) r) : Ev (fun n => x.bind (f n)) r := by
  subst h
  exact k
theorem i64_of {n : Int} (h : (Lit.int .i64 n).wf = true) : I64 n := by
  simp [Lit.wf] at h
  exact h
theorem ev_eq {α : Type} {f : Nat → Option α} {r s : α} (h : Ev f r) (e : r = s) : Ev f s := e ▸ h
theorem ev_ite {α : Type} {c : Prop} [Decidable c] {f g : Nat → Option α} {r s : α} (h : c → Ev f r) (k : ¬ c → Ev g s) : Ev (fun n => if c then f n else g n) (if c then r else s) := by
  by_cases e : c
  · rw [if_pos e]; exact ev_pos e (h e)
  · rw [if_neg e]; exact ev_neg e (k e)
theorem size_is {n : Int} (h : I64 n) : ratio_size.f n = some (n.natAbs : Int) := by
  unfold I64 at h
  unfold ratio_size.f
  simp only [wu64]
  split
  · congr 1; omega
  · congr 1; omega
theorem divisor_l0 : ∀ (b a : Nat), Ev (fun k => ratio_divisor.l0 k (a : Int) (b : Int)) ((Nat.gcd a b : Nat) : Int) := by
  intro b
  induction b using Nat.strongRecOn with
  | ind b ih =>
    intro a
    refine Ev.step (f := fun k => if (b : Int) = 0 then (some (a : Int)) else (ratio_divisor.l0 k (b : Int) (Int.tmod (a : Int) (b : Int)))) (fun k => by simp only [ratio_divisor.l0]) ?_
    by_cases hb : b = 0
    · subst hb
      refine ev_pos rfl (ev_const ?_)
      simp
    · refine ev_neg (by omega) ?_
      have h := ih (a % b) (Nat.mod_lt _ (by omega)) b
      rw [Int.ofNat_tmod] at h
      rw [Nat.gcd_comm, Nat.gcd_rec, Nat.gcd_comm]
      exact h
theorem divisor_ev (a b : Nat) : Ev (fun k => ratio_divisor.f k (a : Int) (b : Int)) ((Nat.gcd a b : Nat) : Int) := divisor_l0 b a
theorem is_ev {a : Q} (h : I64Q a) : Ev (fun k => ratio_Is.f k a.1 a.2) (okQ a) := by
  obtain ⟨n, d⟩ := a
  obtain ⟨h1, h2⟩ := h
  simp only at h1 h2
  show Ev (fun k => ratio_Is.f k n d) (isQ n d)
  unfold ratio_Is.f
  by_cases c1 : d ≥ 1
  · refine ev_pos c1 ?_
    by_cases c2 : d ≤ 1073741824
    · refine ev_pos c2 ?_
      by_cases c3 : n ≥ (-1073741824)
      · refine ev_pos c3 ?_
        by_cases c4 : n ≤ 1073741824
        · refine ev_pos c4 (ev_bind (size_is h1) (ev_bind (size_is h2) (Ev.bind (divisor_ev n.natAbs d.natAbs) (ev_const ?_))))
          congr 1
          rw [Bool.eq_iff_iff, isQ_iff]
          simp only [beq_iff_eq]
          omega
        · exact ev_neg c4 (ev_const (by rw [isQ_false.2 (by omega)]))
      · exact ev_neg c3 (ev_const (by rw [isQ_false.2 (by omega)]))
    · exact ev_neg c2 (ev_const (by rw [isQ_false.2 (by omega)]))
  · exact ev_neg c1 (ev_const (by rw [isQ_false.2 (by omega)]))
theorem rdivisor_l0 : ∀ (b a : Nat), Ev (fun k => serinetteref01_Divisor.l0 k (a : Int) (b : Int)) ((Nat.gcd a b : Nat) : Int) := by
  intro b
  induction b using Nat.strongRecOn with
  | ind b ih =>
    intro a
    refine Ev.step (f := fun k => if (b : Int) = 0 then (some (a : Int)) else (serinetteref01_Divisor.l0 k (b : Int) (Int.tmod (a : Int) (b : Int)))) (fun k => by simp only [serinetteref01_Divisor.l0]) ?_
    by_cases hb : b = 0
    · subst hb
      refine ev_pos rfl (ev_const ?_)
      simp
    · refine ev_neg (by omega) ?_
      have h := ih (a % b) (Nat.mod_lt _ (by omega)) b
      rw [Int.ofNat_tmod] at h
      rw [Nat.gcd_comm, Nat.gcd_rec, Nat.gcd_comm]
      exact h
theorem rdivisor_ev {a b : Int} (ha : I64 a) (hb : I64 b) (ha' : a ≠ -9223372036854775808) (hb' : b ≠ -9223372036854775808) : Ev (fun k => serinetteref01_Divisor.f k a b) ((Nat.gcd a.natAbs b.natAbs : Nat) : Int) := by
  unfold I64 at ha hb
  have j1 : ∀ (x y : Int), x = (a.natAbs : Int) → y = (b.natAbs : Int) → Ev (fun k => serinetteref01_Divisor.j1 k x y) ((Nat.gcd a.natAbs b.natAbs : Nat) : Int) := by
    intro x y hx hy
    subst hx hy
    exact Ev.step (f := fun k => serinetteref01_Divisor.l0 k (a.natAbs : Int) (b.natAbs : Int)) (fun k => by simp only [serinetteref01_Divisor.j1]) (rdivisor_l0 _ _)
  have j0 : ∀ (x : Int), x = (a.natAbs : Int) → Ev (fun k => serinetteref01_Divisor.j0 k x b) ((Nat.gcd a.natAbs b.natAbs : Nat) : Int) := by
    intro x hx
    refine Ev.step (f := fun k => if b < 0 then (serinetteref01_Divisor.j1 k x (wrap64 (-b))) else (serinetteref01_Divisor.j1 k x b)) (fun k => by simp only [serinetteref01_Divisor.j0]) ?_
    by_cases c : b < 0
    · refine ev_pos c (j1 _ _ hx ?_)
      rw [w64 (by unfold I64; omega)]; omega
    · exact ev_neg c (j1 _ _ hx (by omega))
  unfold serinetteref01_Divisor.f
  by_cases c : a < 0
  · refine ev_pos c (j0 _ ?_)
    rw [w64 (by unfold I64; omega)]; omega
  · exact ev_neg c (j0 _ (by omega))
theorem ris_ev {a : Q} (h : I64Q a) : Ev (fun k => serinetteref01_Is.f k a.1 a.2) (okQ a) := by
  obtain ⟨n, d⟩ := a
  obtain ⟨h1, h2⟩ := h
  simp only at h1 h2
  show Ev (fun k => serinetteref01_Is.f k n d) (isQ n d)
  unfold serinetteref01_Is.f
  by_cases c1 : d ≥ 1
  · refine ev_pos c1 ?_
    by_cases c2 : d ≤ 1073741824
    · refine ev_pos c2 ?_
      by_cases c3 : n ≥ (-1073741824)
      · refine ev_pos c3 ?_
        by_cases c4 : n ≤ 1073741824
        · refine ev_pos c4 (Ev.bind (rdivisor_ev h1 h2 (by omega) (by omega)) (ev_const ?_))
          congr 1
          rw [Bool.eq_iff_iff, isQ_iff]
          simp only [beq_iff_eq]
          omega
        · exact ev_neg c4 (ev_const (by rw [isQ_false.2 (by omega)]))
      · exact ev_neg c3 (ev_const (by rw [isQ_false.2 (by omega)]))
    · exact ev_neg c2 (ev_const (by rw [isQ_false.2 (by omega)]))
  · exact ev_neg c1 (ev_const (by rw [isQ_false.2 (by omega)]))
theorem rclean_ev {a : Q} (h : I64Q a) : Ev (fun k => serinetteref01_Clean.f k a.1 a.2) (cleanQ a) := by
  unfold serinetteref01_Clean.f cleanQ
  refine Ev.bind (ris_ev h) ?_
  by_cases c : okQ a = true
  · exact ev_pos c (ev_const (by rw [if_pos c]))
  · exact ev_neg c (ev_const (by rw [if_neg c]; rfl))
theorem mul_bound {x y A B : Int} (h1 : -A ≤ x) (h2 : x ≤ A) (h3 : -B ≤ y) (h4 : y ≤ B) : -(A * B) ≤ x * y ∧ x * y ≤ A * B := by
  have hx : x.natAbs ≤ A.toNat := by omega
  have hy : y.natAbs ≤ B.toNat := by omega
  have h := Nat.mul_le_mul hx hy
  rw [← Int.natAbs_mul] at h
  have e : ((A.toNat * B.toNat : Nat) : Int) = A * B := by
    rw [Int.natCast_mul, Int.toNat_of_nonneg (by omega), Int.toNat_of_nonneg (by omega)]
  omega
theorem okQ_mul {a b : Q} (ha : okQ a = true) (hb : okQ b = true) :
    (-1152921504606846976 ≤ a.1 * b.2 ∧ a.1 * b.2 ≤ 1152921504606846976) ∧ (-1152921504606846976 ≤ b.1 * a.2 ∧ b.1 * a.2 ≤ 1152921504606846976) ∧ (-1152921504606846976 ≤ a.2 * b.2 ∧ a.2 * b.2 ≤ 1152921504606846976) ∧ (-1152921504606846976 ≤ a.1 * b.1 ∧ a.1 * b.1 ≤ 1152921504606846976) ∧ (-1152921504606846976 ≤ a.2 * b.1 ∧ a.2 * b.1 ≤ 1152921504606846976) := by
  have h1 := okQ_bounds ha
  have h2 := okQ_bounds hb
  exact ⟨mul_bound (A := 1073741824) (B := 1073741824) (by omega) (by omega) (by omega) (by omega), mul_bound (A := 1073741824) (B := 1073741824) (by omega) (by omega) (by omega) (by omega), mul_bound (A := 1073741824) (B := 1073741824) (by omega) (by omega) (by omega) (by omega), mul_bound (A := 1073741824) (B := 1073741824) (by omega) (by omega) (by omega) (by omega), mul_bound (A := 1073741824) (B := 1073741824) (by omega) (by omega) (by omega) (by omega)⟩
theorem sign_is (x y : Int) : ratio_sign.f (decide (x < y)) (decide (x > y)) = some (sgn x y) := by
  unfold ratio_sign.f sgn
  by_cases c : x < y
  · simp [c]
  · by_cases c2 : x > y
    · simp [c, c2]
    · simp [c, c2]
theorem cmp_ev {a b : Q} (ha : I64Q a) (hb : I64Q b) : Ev (fun k => ratio_Cmp.f k a.1 a.2 b.1 b.2) (cmpQ a b) := by
  unfold ratio_Cmp.f cmpQ
  refine Ev.bind (is_ev ha) (Ev.bind (is_ev hb) ?_)
  by_cases c : okQ a = true
  · rw [if_pos c]
    refine ev_pos c ?_
    refine Ev.step (fun k => ratio_Cmp.j0.eq_2 ..) ?_
    by_cases c2 : okQ b = true
    · rw [if_pos c2]
      refine ev_neg (by simp [c2]) ?_
      have m := okQ_mul c c2
      rw [w64 (n := a.1 * b.2) (by unfold I64; omega), w64 (n := b.1 * a.2) (by unfold I64; omega)]
      exact ev_bind (sign_is _ _) (ev_const rfl)
    · rw [if_neg c2]
      rw [Bool.not_eq_true] at c2
      refine ev_pos (by simp [c2]) (ev_pos c (ev_const ?_))
      rw [c2]
      rfl
  · rw [if_neg c]
    refine ev_neg c ?_
    refine Ev.step (fun k => ratio_Cmp.j0.eq_2 ..) ?_
    refine ev_pos rfl (ev_neg c (ev_const ?_))
    by_cases c2 : okQ b = true
    · rw [if_pos c2, c2]; rfl
    · rw [if_neg c2]
      rw [Bool.not_eq_true] at c2
      rw [c2]; rfl
theorem rcmp_ev {a b : Q} (ha : I64Q a) (hb : I64Q b) : Ev (fun k => serinetteref01_Cmp.f k a.1 a.2 b.1 b.2) (cmpQ a b) := by
  unfold serinetteref01_Cmp.f cmpQ
  refine Ev.bind (ris_ev ha) ?_
  by_cases c : okQ a = true
  · rw [if_pos c]
    refine ev_pos c ?_
    refine Ev.step (fun k => serinetteref01_Cmp.j0.eq_2 ..) ?_
    refine ev_neg (by decide) (Ev.bind (ris_ev ha) (ev_pos c (Ev.bind (ris_ev hb) ?_)))
    by_cases c2 : okQ b = true
    · refine ev_eq (ev_pos c2 ?_) (if_pos c2).symm
      have m := okQ_mul c c2
      rw [w64 (n := a.1 * b.2) (by unfold I64; omega), w64 (n := b.1 * a.2) (by unfold I64; omega)]
      unfold sgn
      refine ev_ite (fun _ => ev_const rfl) (fun _ => ev_ite (fun _ => ev_const rfl) (fun _ => ev_const rfl))
    · exact ev_eq (ev_neg c2 (ev_const rfl)) (if_neg c2).symm
  · rw [if_neg c]
    refine ev_neg c (Ev.bind (ris_ev hb) ?_)
    refine Ev.step (fun k => serinetteref01_Cmp.j0.eq_2 ..) ?_
    by_cases c2 : okQ b = true
    · rw [if_pos c2]
      exact ev_neg (by simp [c2]) (Ev.bind (ris_ev ha) (ev_neg c (ev_const rfl)))
    · rw [if_neg c2]
      exact ev_pos (by simp [c2]) (ev_const rfl)
abbrev Sp := Int × Int × Int × Int × Int × Bool × Bool
def cutS (a b : Q) (s : Sp) : Sp := if okQ a = true then (if okQ b = true then (if cmpQ a b > 0 then (0, 0, 0, 0, 0, false, true) else s) else s) else s
def denS (den : Int) (f : Int → Sp) : Sp := if den < 0 then f 0 else if decide (den > 1073741824) = true then f 0 else f den
def makeS (a b : Q) (den : Int) : Sp := denS den fun d => cutS a b ((cleanQ a).1, (cleanQ a).2, (cleanQ b).1, (cleanQ b).2, d, false, false)
theorem smake_j3 {a b : Q} (ha : I64Q a) (hb : I64Q b) (l1 l2 h1 h2 d : Int) (n e : Bool) : Ev (fun k => span_Make.j3 k a.1 a.2 b.1 b.2 l1 l2 h1 h2 d n e) (cutS a b (l1, l2, h1, h2, d, n, e)) :=
  Ev.step (fun k => span_Make.j3.eq_2 ..) (Ev.bind (is_ev ha) (ev_ite (fun _ => Ev.bind (is_ev hb) (ev_ite (fun _ => Ev.bind (cmp_ev ha hb) (ev_ite (fun _ => ev_const rfl) (fun _ => ev_const rfl))) (fun _ => ev_const rfl))) (fun _ => ev_const rfl)))
theorem smake_j2 {a b : Q} (ha : I64Q a) (hb : I64Q b) (c : Bool) (l1 l2 h1 h2 d : Int) (n e : Bool) : Ev (fun k => span_Make.j2 k c a.1 a.2 b.1 b.2 l1 l2 h1 h2 d n e) (if c = true then cutS a b (l1, l2, h1, h2, 0, n, e) else cutS a b (l1, l2, h1, h2, d, n, e)) :=
  Ev.step (fun k => span_Make.j2.eq_2 ..) (ev_ite (fun _ => smake_j3 ha hb _ _ _ _ _ _ _) (fun _ => smake_j3 ha hb _ _ _ _ _ _ _))
theorem smake_j1 {a b : Q} (ha : I64Q a) (hb : I64Q b) (den l1 l2 h1 h2 : Int) (n e : Bool) : Ev (fun k => span_Make.j1 k den a.1 a.2 b.1 b.2 l1 l2 h1 h2 den n e) (denS den fun d => cutS a b (l1, l2, h1, h2, d, n, e)) :=
  Ev.step (fun k => span_Make.j1.eq_2 ..) (ev_ite (fun _ => ev_eq (smake_j2 ha hb true _ _ _ _ _ _ _) (if_pos rfl)) (fun _ => smake_j2 ha hb _ _ _ _ _ _ _ _))
theorem smake_j0 {a b : Q} (ha : I64Q a) (hb : I64Q b) (den l1 l2 : Int) (n e : Bool) : Ev (fun k => span_Make.j0 k den a.1 a.2 b.1 b.2 l1 l2 0 0 den n e) (denS den fun d => cutS a b (l1, l2, (cleanQ b).1, (cleanQ b).2, d, n, e)) := by
  refine Ev.step (fun k => span_Make.j0.eq_2 ..) (Ev.bind (is_ev hb) ?_)
  unfold cleanQ
  by_cases h : okQ b = true
  · rw [if_pos h]; exact ev_pos h (smake_j1 ha hb den _ _ _ _ _ _)
  · rw [if_neg h]; exact ev_neg h (smake_j1 ha hb den _ _ _ _ _ _)
theorem smake_ev {a b : Q} (ha : I64Q a) (hb : I64Q b) (den : Int) : Ev (fun k => span_Make.f k a.1 a.2 b.1 b.2 den) (makeS a b den) := by
  unfold span_Make.f makeS
  refine Ev.bind (is_ev ha) ?_
  by_cases h : okQ a = true
  · have e : cleanQ a = a := by unfold cleanQ; rw [if_pos h]
    rw [e]; exact ev_pos h (smake_j0 ha hb den _ _ _ _)
  · have e : cleanQ a = (0, 0) := by unfold cleanQ; rw [if_neg h]
    rw [e]; exact ev_neg h (smake_j0 ha hb den _ _ _ _)
theorem tmake_j1 {a b : Q} (ha : I64Q a) (hb : I64Q b) (d : Int) : Ev (fun k => serinetteref03_Make.j1 k d a.1 a.2 b.1 b.2) (cutS a b ((cleanQ a).1, (cleanQ a).2, (cleanQ b).1, (cleanQ b).2, d, false, false)) :=
  Ev.step (fun k => serinetteref03_Make.j1.eq_2 ..) (Ev.bind (rclean_ev ha) (Ev.bind (rclean_ev hb) (Ev.bind (ris_ev ha) (ev_ite (fun _ => Ev.bind (ris_ev hb) (ev_ite (fun _ => Ev.bind (rcmp_ev ha hb) (ev_ite (fun _ => ev_const rfl) (fun _ => ev_const rfl))) (fun _ => ev_const rfl))) (fun _ => ev_const rfl)))))
theorem tmake_j0 {a b : Q} (ha : I64Q a) (hb : I64Q b) (den : Int) (c : Bool) : Ev (fun k => serinetteref03_Make.j0 k den c a.1 a.2 b.1 b.2) (if c = true then cutS a b ((cleanQ a).1, (cleanQ a).2, (cleanQ b).1, (cleanQ b).2, 0, false, false) else cutS a b ((cleanQ a).1, (cleanQ a).2, (cleanQ b).1, (cleanQ b).2, den, false, false)) :=
  Ev.step (fun k => serinetteref03_Make.j0.eq_2 ..) (ev_ite (fun _ => tmake_j1 ha hb _) (fun _ => tmake_j1 ha hb _))
theorem tmake_ev {a b : Q} (ha : I64Q a) (hb : I64Q b) (den : Int) : Ev (fun k => serinetteref03_Make.f k a.1 a.2 b.1 b.2 den) (makeS a b den) := by
  unfold serinetteref03_Make.f makeS denS
  exact ev_ite (fun _ => ev_eq (tmake_j0 ha hb den true) (if_pos rfl)) (fun _ => tmake_j0 ha hb den _)
theorem awake_ev : Ev (fun k => serinettelaw03_awake.f k) true :=
  Ev.of serinettelaw03_awake.mono (k := 60) (by decide +kernel)
theorem pure {a b : Q} (ha : I64Q a) (hb : I64Q b) (den : Int) : Ev (fun k => serinettelaw03_SpanMakes.f k a.1 a.2 b.1 b.2 den) true := by
  unfold serinettelaw03_SpanMakes.f
  refine Ev.bind (smake_ev ha hb den) (Ev.bind (tmake_ev ha hb den) (ev_pos (by simp) (Ev.bind awake_ev (ev_const rfl))))
end Go.Proofs.YtlibjgmnookakaaDoor.SSpanMakes
namespace Go.Proofs.YtlibjgmnookakaaDoor.Fit
open Go.ChangeShapes Go.WideShapes Go.Deep Go.Proofs.YtlibjgmnookakaaDoor.Wd.PrintWords
structure Fit (P : Program) (t : TypeId) {α : Type} (k : Kd α) (good : α → Prop) : Prop where
  sz : P.cellsOf t = k.sz
  take : ∀ {H : Type} {enc : TypeId × Value → H} {w : World} {base : Nat} {spare : Nat → Bool} {held : Bool} {fuel : Nat} {cs : List Value} {x : DataW H × List MemPlace},
    DataW.trod enc P w base spare held fuel t cs = some x → (∀ n ∈ x.1.weights P t, n ≤ 140737488351232) → ∃ a, k.K w a cs ∧ good a
theorem Fit.int {P : Program} {t : TypeId} {k : IntKind} (ht : P.underlying t = some (.int k)) (hs : P.cellsOf t = 1) : Fit P t (Kd.int k) (fun n => (Lit.int k n).wf = true) :=
  ⟨hs, fun h _ => by
    obtain ⟨n, rfl, _, hw⟩ := DataW.trod_int ht h
    exact ⟨n, rfl, hw⟩⟩
theorem Fit.bool {P : Program} {t : TypeId} (ht : P.underlying t = some .bool) (hs : P.cellsOf t = 1) : Fit P t Kd.bool (fun _ => True) :=
  ⟨hs, fun h _ => by
    obtain ⟨n, rfl, _⟩ := DataW.trod_bool ht h
    exact ⟨n, rfl, trivial⟩⟩
theorem Fit.string {P : Program} {t : TypeId} (ht : P.underlying t = some .string) (hs : P.cellsOf t = 1) : Fit P t Kd.string (fun s => s.size ≤ 140737488351232) :=
  ⟨hs, fun h hw => by
    obtain ⟨s, rfl, rfl, _⟩ := DataW.trod_string ht h
    refine ⟨s, rfl, ?_⟩
    have := hw s.data.toList.length (by simp [DataW.weights])
    rw [Array.length_toList] at this
    exact this⟩
theorem Fit.iso {P : Program} {t : TypeId} {α β : Type} {k : Kd α} {good : α → Prop} (h : Fit P t k good) (f : β → α) (g : α → β) (hfg : ∀ a, f (g a) = a) : Fit P t (Kd.iso k f) (fun b => good (f b)) :=
  ⟨h.sz, fun ht hw => by
    obtain ⟨a, hk, hg⟩ := h.take ht hw
    refine ⟨g a, ?_, ?_⟩
    · show k.K _ (f (g a)) _
      rw [hfg]; exact hk
    · show good (f (g a))
      rw [hfg]; exact hg⟩
theorem weightsAll_mem {H : Type} {P : Program} {e : TypeId} : ∀ {ds : List (DataW H)} {d : DataW H}, d ∈ ds → ∀ n ∈ d.weights P e, n ∈ DataW.weightsAll P e ds
  | [], _, h, _, _ => by cases h
  | d0 :: ds, d, h, n, hn => by
    simp only [DataW.weightsAll, List.mem_append]
    rcases List.mem_cons.1 h with rfl | h
    · exact .inl hn
    · exact .inr (weightsAll_mem h n hn)
theorem Fit.slice {P : Program} {t e : TypeId} {α : Type} {k : Kd α} {good : α → Prop} {B : Nat} (ht : P.underlying t = some (.slice e)) (hs : P.cellsOf t = 1) (he : Fit P e k good) (hB : P.bytesOf e = B) :
    Fit P t (Kd.slice e k) (fun xs => xs.length * B ≤ 140737488351232 ∧ ∀ x ∈ xs, good x) :=
  ⟨hs, fun {H enc w base spare held fuel cs x} h hw => by
    rcases open_slice ht h with ⟨rfl, rfl⟩ | ⟨a, len, cap, m, n, D, Pl, rfl, hb, hl, hm, hmm, rfl, hi⟩
    · exact ⟨[], ⟨none, 0, rfl, Nat.le_refl _, Kd.C_nil _ _⟩, by simp, fun x hx => by cases hx⟩
    · have hlm : len ≤ m := by rw [hmm]; split <;> omega
      have hwt : ∀ n ∈ DataW.weights P t (.slice ((List.range len).map D) ((List.range (m - len)).map fun j => D (len + j))), n ≤ 140737488351232 := hw
      have hel : ∀ i, i < len → ∃ (p : α), ∃ c, w.cells? base (a.add (i * P.cellsOf e)) (P.cellsOf e) = some c ∧ k.K w p c ∧ good p := by
        intro i hlt
        obtain ⟨c, hc, hT⟩ := hi i (by omega)
        obtain ⟨p, hp, hg⟩ := he.take hT (by
          intro q hq
          refine hwt q ?_
          simp only [DataW.weights, ht, List.mem_cons, List.mem_append]
          exact .inr (.inl (weightsAll_mem (List.mem_map.2 ⟨i, List.mem_range.2 hlt, rfl⟩) q hq)))
        exact ⟨p, c, hc, hp, hg⟩
      have hch : ∃ xs : List α, xs.length = len ∧ ∀ (i : Nat) (p : α), xs[i]? = some p → ∃ c, w.cells? base (a.add (i * P.cellsOf e)) (P.cellsOf e) = some c ∧ k.K w p c ∧ good p := by
        clear hwt hw h hi hl hm hmm hlm
        induction len with
        | zero => exact ⟨[], rfl, fun i p hp => by simp at hp⟩
        | succ len ih =>
          obtain ⟨xs, hx, hxs⟩ := ih (fun i hi => hel i (Nat.lt_succ_of_lt hi))
          obtain ⟨p, hp⟩ := hel len (Nat.lt_succ_self _)
          refine ⟨xs ++ [p], by simp [hx], fun i q hq => ?_⟩
          by_cases hil : i < xs.length
          · rw [List.getElem?_append_left hil] at hq
            exact hxs i q hq
          · have hlt : i < (xs ++ [p]).length := (List.getElem?_eq_some_iff.1 hq).1
            simp at hlt
            obtain rfl : i = xs.length := by omega
            simp at hq
            subst hq
            rw [hx]
            exact hp
      obtain ⟨xs, hx, hxs⟩ := hch
      refine ⟨xs, ⟨some a, cap, by rw [hx], by rw [hx]; exact hl, ?_⟩, ?_, ?_⟩
      · refine ⟨rfl, by simp only [maxLen] at hm; omega, fun _ => ⟨a, rfl, fun j p hj => ?_⟩⟩
        obtain ⟨c, hc, hk, _⟩ := hxs j p hj
        have hck := k.K_len hk
        obtain ⟨_, hcl, hat⟩ := World.cells?_some hc
        refine ⟨c, hck, hk, fun i u hu => ?_⟩
        have hi' : i < c.length := (List.getElem?_eq_some_iff.1 hu).1
        have h1 := hat (i := i) (by rw [← he.sz] at hck; omega)
        rw [Deep.add_add] at h1
        rw [← he.sz, h1, hu]
      · have h1 : (len + (m - len)) * P.bytesOf e ≤ 140737488351232 := hwt _ (by simp [DataW.weights, ht])
        rw [hB] at h1
        rw [hx]
        exact Nat.le_trans (Nat.mul_le_mul_right _ (by omega)) h1
      · intro x hx'
        obtain ⟨i, hi', rfl⟩ := List.getElem_of_mem hx'
        obtain ⟨c, _, _, hg⟩ := hxs i _ (List.getElem?_eq_getElem hi')
        exact hg⟩
structure FitF (P : Program) (fs : List Field) (off : Nat) {α : Type} (k : Kd α) (good : α → Prop) : Prop where
  take : ∀ {H : Type} {enc : TypeId × Value → H} {w : World} {base : Nat} {spare : Nat → Bool} {held : Bool} {fuel : Nat} {cs : List Value} {xs : List (DataW H × List MemPlace)},
    xs.length = fs.length → (∀ (i : Nat) (f : Field), fs[i]? = some f → DataW.trod enc P w base spare held fuel f.type ((cs.drop f.offset).take (P.cellsOf f.type)) = xs[i]?) →
    cs.length = off + k.sz → (∀ n ∈ DataW.weightsEach P (fs.map (·.type)) (xs.map (·.1)), n ≤ 140737488351232) → ∃ a, k.K w a (cs.drop off) ∧ good a
theorem FitF.last {P : Program} {f : Field} {off : Nat} {α : Type} {k : Kd α} {good : α → Prop} (hf : Fit P f.type k good) (ho : f.offset = off) : FitF P [f] off k good :=
  ⟨fun {H enc w base spare held fuel cs xs} hl h hc hw => by
    match xs, hl with
    | [y], _ =>
      have h0 := h 0 f rfl
      rw [ho, hf.sz, List.take_of_length_le (by rw [List.length_drop]; omega)] at h0
      exact hf.take (x := y) h0 (fun n hn => hw n (by simp [DataW.weightsEach]; exact hn))⟩
theorem FitF.cons {P : Program} {f : Field} {fs : List Field} {off : Nat} {α β : Type} {k : Kd α} {k' : Kd β} {good : α → Prop} {good' : β → Prop} (hf : Fit P f.type k good) (ho : f.offset = off) (hfs : FitF P fs (off + k.sz) k' good') :
    FitF P (f :: fs) off (Kd.pair k k') (fun x => good x.1 ∧ good' x.2) :=
  ⟨fun {H enc w base spare held fuel cs xs} hl h hc hw => by
    match xs, hl with
    | y :: ys, hl =>
      have hc' : cs.length = off + (k.sz + k'.sz) := hc
      have h0 := h 0 f rfl
      rw [ho, hf.sz] at h0
      obtain ⟨a, ha, hga⟩ := hf.take (x := y) h0 (fun n hn => hw n (by simp only [List.map_cons, DataW.weightsEach, List.mem_append]; exact .inl hn))
      obtain ⟨b, hb, hgb⟩ := hfs.take (xs := ys) (by simpa using hl) (fun i g hg => by have := h (i + 1) g (by simpa using hg); simpa using this) (by omega)
        (fun n hn => hw n (by simp only [List.map_cons, DataW.weightsEach, List.mem_append]; exact .inr hn))
      refine ⟨(a, b), ⟨(cs.drop off).take k.sz, cs.drop (off + k.sz), ?_, ha, hb⟩, hga, hgb⟩
      rw [← List.drop_drop, List.take_append_drop]⟩
theorem Fit.struct {P : Program} {t : TypeId} {fs : Array Field} {α : Type} {k : Kd α} {good : α → Prop} (ht : P.underlying t = some (.struct fs)) (hs : P.cellsOf t = k.sz) (hf : FitF P fs.toList 0 k good) : Fit P t k good :=
  ⟨hs, fun {H enc w base spare held fuel cs x} h hw => by
    obtain ⟨xs, n, rfl, rfl, hc, hl, hg⟩ := DataW.trod_struct ht h
    have := hf.take (xs := xs) (by simpa using hl) (fun i f hi => hg i f (by simpa using hi)) (by rw [hc, hs]; omega) (fun q hq => hw q (by simpa [DataW.weights, ht] using hq))
    simpa using this⟩
theorem Fit.param {P : Program} {t : TypeId} {α : Type} {k : Kd α} {good : α → Prop} (hf : Fit P t k good) {H : Type} {enc : TypeId × Value → H} {w : World} {base : Nat} {spare : Nat → Bool} {held : Bool} {v : Value} {d : DataW H} {ps : List MemPlace}
    {ts : List TypeId} {ds : List (DataW H)} {j : Nat} (hsz : (DataW.weightsEach P ts ds).all (· ≤ reachBytes) = true) (hj : ts[j]? = some t) (hd : ds[j]? = some d) (h : DataW.Trod enc P w base spare held t v d ps) :
    ∃ a, k.K w a v.cells.toList ∧ good a := by
  obtain ⟨fuel, h⟩ := h
  refine hf.take h fun n hn => ?_
  have := List.all_eq_true.1 hsz _ (DataW.weights_mem_each hj hd n hn)
  exact of_decide_eq_true this
end Go.Proofs.YtlibjgmnookakaaDoor.Fit
