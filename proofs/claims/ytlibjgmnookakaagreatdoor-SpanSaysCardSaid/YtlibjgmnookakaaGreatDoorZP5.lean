/- Parts of the proof of SpanSays, joined by program out of this session's own texts. -/
import Derived.Test.YtlibjgmnookakaaGreatDoorZP4
set_option linter.unusedVariables false
set_option linter.unusedSimpArgs false
namespace Go.Proofs.YtlibjgmnookakaaGreatDoor.SSpanSays
open Go.Proofs.YtlibjgmnookakaaGreatDoor
open Go.RowKit Go.Proofs.YtlibjgmnookakaaGreatDoor.Wd.PrintWords Go.Proofs.YtlibjgmnookakaaGreatDoor.Wd.PrintLast Go.Proofs.YtlibjgmnookakaaGreatDoor.Wd.PrintMore
attribute [local go_sem] max2_int min2_int max_two min_two max_three min_three max_four min_four
attribute [local go_sem] max2_int min2_int max_two min_two max_three min_three max_four min_four
attribute [local go_sem] max2_int min2_int max_two min_two max_three min_three max_four min_four
attribute [local go_sem high] eqA23
attribute [local go_sem high] eqA25
def strconv_FormatInt_33.f (a0 : Int) (a1 : Int) : Option (ByteArray) := if a1 = 10 then (if -9223372036854775808 ≤ a0 ∧ a0 ≤ 9223372036854775807 then some ⟨(Lib.itoa a0).toArray⟩ else none) else none
theorem strconv_FormatInt_33.calls (a0 : Int) (a1 : Int) (r : ByteArray) (w : World) (htab : FI.Tb w) (h : strconv_FormatInt_33.f a0 a1 = some r) :
    Calls Tryz.prog 33 #[.int .i64 a0, .int .i64 a1] w fun e w' => e = .returned (.string r) ∧ Below w.heap.size w w' := by
  have HTb := Aside0.mk htab; clear htab
  unfold strconv_FormatInt_33.f at h
  by_cases h0 : a1 = 10
  rotate_left
  · rw [if_neg h0] at h; cases h
  rw [if_pos h0] at h
  by_cases h1 : -9223372036854775808 ≤ a0 ∧ a0 ≤ 9223372036854775807
  rotate_left
  · rw [if_neg h1] at h; cases h
  rw [if_pos h1] at h
  obtain rfl := Option.some.inj h
  subst h0
  exact FI.fmt_calls a0 w h1.1 h1.2 HTb.out
def span_binary.f (k : Nat) (a0 : ByteArray) (a1_0 : Int) (a1_1 : Int) (a1_2 : Int) (a1_3 : Int) (a1_4 : Int) (a1_5 : Bool) (a1_6 : Bool) (a2_0 : Int) (a2_1 : Int) (a2_2 : Int) (a2_3 : Int) (a2_4 : Int) (a2_5 : Bool) (a2_6 : Bool) (a3 : Bool) : Option (Int × Int × Int × Int × Int × Bool × Bool) := if a0.toList = ([97, 100, 100] : List UInt8) then span_sum.f k a1_0 a1_1 a1_2 a1_3 a1_4 a1_5 a1_6 a2_0 a2_1 a2_2 a2_3 a2_4 a2_5 a2_6 a3 else none
theorem span_binary.mono : ∀ a0 a1_0 a1_1 a1_2 a1_3 a1_4 a1_5 a1_6 a2_0 a2_1 a2_2 a2_3 a2_4 a2_5 a2_6 a3 k, LeO (span_binary.f k a0 a1_0 a1_1 a1_2 a1_3 a1_4 a1_5 a1_6 a2_0 a2_1 a2_2 a2_3 a2_4 a2_5 a2_6 a3) (span_binary.f (k + 1) a0 a1_0 a1_1 a1_2 a1_3 a1_4 a1_5 a1_6 a2_0 a2_1 a2_2 a2_3 a2_4 a2_5 a2_6 a3) := by
  intro a0 a1_0 a1_1 a1_2 a1_3 a1_4 a1_5 a1_6 a2_0 a2_1 a2_2 a2_3 a2_4 a2_5 a2_6 a3 k
  unfold span_binary.f
  exact LeO.ite (span_sum.mono _ _ _ _ _ _ _ _ _ _ _ _ _ _ _ _) (LeO.refl _)
theorem span_binary.calls (k : Nat) (a0 : ByteArray) (a1_0 : Int) (a1_1 : Int) (a1_2 : Int) (a1_3 : Int) (a1_4 : Int) (a1_5 : Bool) (a1_6 : Bool) (a2_0 : Int) (a2_1 : Int) (a2_2 : Int) (a2_3 : Int) (a2_4 : Int) (a2_5 : Bool) (a2_6 : Bool) (a3 : Bool) (r1 : Int) (r2 : Int) (r3 : Int) (r4 : Int) (r5 : Int) (r6 : Bool) (r7 : Bool) (w : World) (h : span_binary.f k a0 a1_0 a1_1 a1_2 a1_3 a1_4 a1_5 a1_6 a2_0 a2_1 a2_2 a2_3 a2_4 a2_5 a2_6 a3 = some (r1, r2, r3, r4, r5, r6, r7)) :
    Calls Tryz.prog 62 #[.string a0, .agg #[.int .i64 a1_0, .int .i64 a1_1, .int .i64 a1_2, .int .i64 a1_3, .int .i64 a1_4, .bool a1_5, .bool a1_6], .agg #[.int .i64 a2_0, .int .i64 a2_1, .int .i64 a2_2, .int .i64 a2_3, .int .i64 a2_4, .bool a2_5, .bool a2_6], .bool a3] w fun e w' => e = .returned (.agg #[.int .i64 r1, .int .i64 r2, .int .i64 r3, .int .i64 r4, .int .i64 r5, .bool r6, .bool r7]) ∧ Below w.heap.size w w' := by
  unfold span_binary.f at h
  by_cases h0 : a0.toList = ([97, 100, 100] : List UInt8)
  rotate_left
  · rw [if_neg h0] at h; cases h
  rw [if_pos h0] at h
  have HS := Aside0.mk h
  have c0 : (a0.toList == ([97, 100, 100] : List UInt8)) = true := beq_iff_eq.mpr h0
  clear h h0
  have hu25 := Tryz.underlying25
  have HB := Aside0.mk (Below.refl w.heap.size w)
  go_enter Tryz.func62, Tryz.ntmps62
  go_upto_region 3 with (first | ((with_reducible refine gate_dst (N := 5) rfl ?_); refine box_event ?hg (N := 5) ?hd (cs := #[.int .i64 a1_0, .int .i64 a1_1, .int .i64 a1_2, .int .i64 a1_3, .int .i64 a1_4, .bool a1_5, .bool a1_6]) (t := 25) ?hr ?_; (case hd => rfl); (case hg => rfl); (case hr => first | (go_simp; done) | (go_simp; rfl)); intro ga hg wga hbox hb; have BKga := Aside0.mk (hbox); have GEga := hz_ hg HB; replace HB := hs HB hb; clear hb hbox hg) | ((with_reducible refine gate_dst (N := 6) rfl ?_); refine box_event ?hg (N := 6) ?hd (cs := #[.int .i64 a2_0, .int .i64 a2_1, .int .i64 a2_2, .int .i64 a2_3, .int .i64 a2_4, .bool a2_5, .bool a2_6]) (t := 25) ?hr ?_; (case hd => rfl); (case hg => rfl); (case hr => first | (go_simp; done) | (go_simp; rfl)); intro gb hg wgb hbox hb; have BKgb := Aside0.mk (hbox); have GEgb := hz_ hg HB; replace BKga := kb BKga hb; replace HB := hs HB hb; clear hb hbox hg) | ((with_reducible refine gate_dst (N := 8) rfl ?_); refine box_event ?hg (N := 8) ?hd (cs := #[.int .i64 0, .int .i64 0, .int .i64 0, .int .i64 0, .int .i64 0, .bool false, .bool false]) (t := 25) ?hr ?_; (case hd => rfl); (case hg => rfl); (case hr => first | (go_simp; done) | (go_simp; rfl)); intro gr hg wgr hbox hb; have BKgr := Aside0.mk (hbox); have GEgr := hz_ hg HB; replace BKga := kb BKga hb; replace BKgb := kb BKgb hb; replace HB := hs HB hb; clear hb hbox hg))
  obtain ⟨p0, p1, p2, p3, p4, p5, p6⟩ := bc7 BKga.out
  obtain ⟨q0, q1, q2, q3, q4, q5, q6⟩ := bc7 BKgb.out
  obtain ⟨z0, z1, z2, z3, z4, z5, z6⟩ := bc7 BKgr.out
  obtain ⟨y0, y1, y2, y3, y4, y5, y6⟩ := bf7 BKgr.out
  go_wp2_with (first | ((with_reducible refine gate_callee (f := 78) rfl ?_); refine goesL_ (some 15) rfl rfl Tryz.func78 (by kernel_rfl) rfl #[.agg #[.int .i64 a1_0, .int .i64 a1_1, .int .i64 a1_2, .int .i64 a1_3, .int .i64 a1_4, .bool a1_5, .bool a1_6], .agg #[.int .i64 a2_0, .int .i64 a2_1, .int .i64 a2_2, .int .i64 a2_3, .int .i64 a2_4, .bool a2_5, .bool a2_6], .bool a3] rfl (by (try simp only [mp]); first | done | rfl | (simp only [ld]; rfl)) ?_; (with_reducible refine (span_sum.calls k _ _ _ _ _ _ _ _ _ _ _ _ _ _ _ _ _ _ _ _ _ _ _ HS.out).mono ?_); rintro e w1 ⟨rfl, hb⟩; refine ⟨_, rfl, ?_⟩; replace BKgr := kb BKgr hb; replace HB := hs HB hb; clear hb; clear z0 z1 z2 z3 z4 z5 z6 y0 y1 y2 y3 y4 y5 y6; obtain ⟨z0, z1, z2, z3, z4, z5, z6⟩ := bc7 BKgr.out; obtain ⟨y0, y1, y2, y3, y4, y5, y6⟩ := bf7 BKgr.out))
  refine bodyPost_ret (results_cell_row rfl _ _ gr 25 #[.int .i64 r1, .int .i64 r2, .int .i64 r3, .int .i64 r4, .int .i64 r5, .bool r6, .bool r7] (0, 0) _ rfl (by exact rq BKgr.out (by rfl)) Tryz.underlying25 rfl (by kernel_rfl)) rfl ?_
  exact ⟨rfl, by repeat first | (with_reducible exact HB.out) | refine bl1 ?_ | (with_reducible refine bset ?_ ‹_›) | exact HB.out⟩
def ratio_Text.f (k : Nat) (a0_0 : Int) (a0_1 : Int) : Option (ByteArray) := (ratio_Is.f k a0_0 a0_1).bind fun t259 => (if t259 = true then (if a0_1 = 1 then ((strconv_FormatInt_33.f a0_0 10).bind fun t260 => (some t260)) else ((strconv_FormatInt_33.f a0_0 10).bind fun t261 => (if t261.size + 1 ≤ 9223372036854775807 then ((strconv_FormatInt_33.f a0_1 10).bind fun t262 => (if (t261 ++ (⟨#[47]⟩ : ByteArray)).size + t262.size ≤ 9223372036854775807 then (some ((t261 ++ (⟨#[47]⟩ : ByteArray)) ++ t262)) else (none))) else (none)))) else (some (⟨#[110, 111, 110, 101]⟩ : ByteArray)))
theorem ratio_Text.mono : ∀ a0 a1 k, LeO (ratio_Text.f k a0 a1) (ratio_Text.f (k + 1) a0 a1) := by
 intro a0 a1 k
 unfold ratio_Text.f
 repeat' first
   | (with_reducible exact ratio_Is.mono _ _ _)
   | (with_reducible exact LeO.refl _)
   | (with_reducible exact LeO.none _)
   | (with_reducible refine LeO.ite ?_ ?_)
   | (with_reducible refine LeO.bind ?_ (fun _ => ?_))
   | exact ratio_Is.mono _ _ _
   | exact LeO.none _
   | refine LeO.ite ?_ ?_
   | refine LeO.bind ?_ (fun _ => ?_)
def ratio_Text.T5 : Bool × List (List Nat × List Nat) := (true, [([], []), ([0], [0]), ([1], [1]), ([2], [2]), ([], []), ([4], [4]), ([5, 2], [5]), ([3, 6], [3, 6]), ([7, 6, 0, 1, 2, 3, 4, 5, 6, 7], [7])])
def ratio_Text.B5 : List Nat := [0, 1, 3, 7, 0, 16, 55, 127, 255]
theorem ratio_Text.tab5 : rtab .any (opsOf Tryz.f52 5) = ratio_Text.T5 := by kernel_rfl
theorem ratio_Text.bits5 : waitsOk ratio_Text.T5.2 ratio_Text.B5 = true := by kernel_rfl
set_option maxHeartbeats 8000000 in
set_option maxRecDepth 100000 in
theorem ratio_Text.calls (k : Nat) (a0_0 : Int) (a0_1 : Int) (r : ByteArray) (w : World) (htab : FI.Tb w) (h : ratio_Text.f k a0_0 a0_1 = some r) :
  Calls Tryz.prog 52 #[.agg #[.int .i64 a0_0, .int .i64 a0_1]] w fun e w' => e = .returned (.string r) ∧ Below w.heap.size w w' := by
 have HTb := Aside0.mk htab; clear htab
 have hu23 := Tryz.underlying23; have HB := Aside0.mk (Below.refl w.heap.size w); have H : ((ratio_Is.f k a0_0 a0_1).bind fun t259 => (if t259 = true then (if a0_1 = 1 then ((strconv_FormatInt_33.f a0_0 10).bind fun t260 => (some t260)) else ((strconv_FormatInt_33.f a0_0 10).bind fun t261 => (if t261.size + 1 ≤ 9223372036854775807 then ((strconv_FormatInt_33.f a0_1 10).bind fun t262 => (if (t261 ++ (⟨#[47]⟩ : ByteArray)).size + t262.size ≤ 9223372036854775807 then (some ((t261 ++ (⟨#[47]⟩ : ByteArray)) ++ t262)) else (none))) else (none)))) else (some (⟨#[110, 111, 110, 101]⟩ : ByteArray)))) = some r := h; clear h; replace H := Option.bind_eq_some_iff.mp H; obtain ⟨t259, A20, H⟩ := H; (try dsimp only at H); have A2 := Aside0.mk A20; clear A20; by_cases c3 : t259 = true
 ·
  subst c3; rw [if_pos rfl] at H; by_cases c4 : a0_1 = 1
  · rw [if_pos c4] at H; have c4b0 : (a0_1 == 1) = true := beq_iff_eq.mpr c4; have c4b1 : (a0_1 != 1) = false := bne_eq_false_iff_eq.mpr c4; clear c4; replace H := Option.bind_eq_some_iff.mp H; obtain ⟨t260, A50, H⟩ := H; (try dsimp only at H); have A5 := Aside0.mk A50; clear A50; obtain rfl := Option.some.inj H; go_enter Tryz.func52, Tryz.ntmps52; go_wp2_with (first | ((with_reducible refine gate_dst (N := 1) rfl ?_); refine bx_ 1 #[.int .i64 a0_0, .int .i64 a0_1] 23 ?_; intro gb258 hg w6 BK258 hb; have GE258 := hz_ hg HB; replace HB := hs HB hb; clear hb hg; obtain ⟨hcz7_0, hcz7_1⟩ := bc2 BK258.out; obtain ⟨hfz7_0, hfz7_1⟩ := bf2 BK258.out) | ((with_reducible refine gate_callee (f := 24) rfl ?_); refine goesL_ (some 5) rfl rfl Tryz.func24 (by kernel_rfl) rfl #[.agg #[.int .i64 a0_0, .int .i64 a0_1]] rfl (by (try simp only [mp]); first | done | rfl | (simp only [ld]; rfl)) ?_; (with_reducible refine (ratio_Is.calls k a0_0 a0_1 true _ A2.out).mono ?_); rintro e w8 ⟨rfl, hb⟩; refine ⟨_, rfl, ?_⟩; replace BK258 := kb BK258 hb; replace HB := hb_ w hb; obtain ⟨hcz9_0, hcz9_1⟩ := bc2 BK258.out; obtain ⟨hfz9_0, hfz9_1⟩ := bf2 BK258.out) | ((with_reducible refine gate_callee (f := 33) rfl ?_); refine goesL_ (some 13) rfl rfl Tryz.func33 (by kernel_rfl) rfl #[.int .i64 a0_0, .int .i64 10] rfl (by (try simp only [mp]); first | done | rfl | (simp only [ld]; rfl)) ?_; (with_reducible refine (strconv_FormatInt_33.calls a0_0 10 t260 _ (by first | exact FI.tb2 HTb HB HBW | exact FI.tb1 HTb HB | exact FI.tb3 HTb HB HBW | exact FI.tb1 HTb ab_) A5.out).mono ?_); rintro e w10 ⟨rfl, hb⟩; refine ⟨_, rfl, ?_⟩; replace BK258 := kb BK258 hb; replace HB := hb_ w hb; )); go_ret; exact en_
  ·
   rw [if_neg c4] at H; have c4b0 : (a0_1 == 1) = false := beq_eq_false_iff_ne.mpr c4; have c4b1 : (a0_1 != 1) = true := bne_iff_ne.mpr c4; replace H := Option.bind_eq_some_iff.mp H; obtain ⟨t261, A110, H⟩ := H; (try dsimp only at H); have A11 := Aside0.mk A110; clear A110; by_cases c12 : t261.size + 1 ≤ 9223372036854775807
   ·
    rw [if_pos c12] at H; have c12b0 := eq_true c12; have c12b1 : decide (t261.size + 1 ≤ 9223372036854775807) = true := decide_eq_true c12; (try have c12b2 : (9223372036854775807 < t261.size + 1) = False := eq_false (Nat.not_lt.2 c12)); replace H := Option.bind_eq_some_iff.mp H; obtain ⟨t262, A130, H⟩ := H; (try dsimp only at H); have A13 := Aside0.mk A130; clear A130; by_cases c14 : (t261 ++ (⟨#[47]⟩ : ByteArray)).size + t262.size ≤ 9223372036854775807
    ·
     rw [if_pos c14] at H; have c14b0 := eq_true c14; have c14s : (9223372036854775807 < t261.size + 1 + t262.size) = False := eq_false (by have h_ := c14; simp only [ByteArray.size_append] at h_; have e0 : (⟨#[47]⟩ : ByteArray).size = 1 := rfl; omega); have c14b1 : decide ((t261 ++ (⟨#[47]⟩ : ByteArray)).size + t262.size ≤ 9223372036854775807) = true := decide_eq_true c14; (try have c14b2 : (9223372036854775807 < (t261 ++ (⟨#[47]⟩ : ByteArray)).size + t262.size) = False := eq_false (Nat.not_lt.2 c14)); obtain rfl := Option.some.inj H; go_enter Tryz.func52, Tryz.ntmps52; (try go_wp2_with (first | ((with_reducible refine gate_dst (N := 1) rfl ?_); refine bx_ 1 #[.int .i64 a0_0, .int .i64 a0_1] 23 ?_; intro gb258 hg w15 BK258 hb; have GE258 := hz_ hg HB; replace HB := hs HB hb; clear hb hg; obtain ⟨hcz16_0, hcz16_1⟩ := bc2 BK258.out; obtain ⟨hfz16_0, hfz16_1⟩ := bf2 BK258.out) | ((with_reducible refine gate_callee (f := 24) rfl ?_); refine goesL_ (some 5) rfl rfl Tryz.func24 (by kernel_rfl) rfl #[.agg #[.int .i64 a0_0, .int .i64 a0_1]] rfl (by (try simp only [mp]); first | done | rfl | (simp only [ld]; rfl)) ?_; (with_reducible refine (ratio_Is.calls k a0_0 a0_1 true _ A2.out).mono ?_); rintro e w17 ⟨rfl, hb⟩; refine ⟨_, rfl, ?_⟩; replace BK258 := kb BK258 hb; replace HB := hb_ w hb; obtain ⟨hcz18_0, hcz18_1⟩ := bc2 BK258.out; obtain ⟨hfz18_0, hfz18_1⟩ := bf2 BK258.out))); replace BK258 := kd BK258; replace HB := Aside0.mk (below_drew1 HB.out); refine start_ (n := 9) (S := fun w' => w'.cell? ⟨gb258, 0, none⟩ = some (.int .i64 a0_0) ∧ w'.cell? ⟨gb258, 1, none⟩ = some (.int .i64 a0_1)) (ds := []) (bA 9 0) (by kernel_rfl) rfl rfl ⟨(blk_cell BK258.out 0).trans rfl, (blk_cell BK258.out 1).trans rfl⟩ (fun hHeld => ?_); refine with_tabW ratio_Text.tab5 ratio_Text.bits5 (fun HT_ HW_ => ?_); generalize w17.drew = w19 at BK258 HB hHeld ⊢; have hH0 := hHeld; have HBW := hbw w19; refine pure_ (i := 0) (N := some 14) (v := ?_) (a' := ?_) (bA 9 1) rfl rfl (any_of HT_.out (by kernel_rfl)) (fun _ _ _ h => h) (Or.inl ⟨by rfl, ?_⟩) ?_ ?_; rotate_left
     · intro w'; go_simp; with_reducible rfl
     rotate_left
     · simp only [ap]; rfl
     refine pure_ (i := 4) (N := some 18) (v := ?_) (a' := ?_) (bA 9 17) rfl rfl (any_of HT_.out (by kernel_rfl)) (fun _ _ _ h => h) (Or.inl ⟨by rfl, ?_⟩) ?_ ?_; rotate_left
     · intro w'; go_simp; with_reducible rfl
     rotate_left
     · simp only [ap]; rfl
     refine take_ (i := 1) (N := some 15) (v := ?_) (a' := ?_) (bA 9 19) rfl rfl (take_ofW HT_.out HW_.out (by kernel_rfl)) (fun _ _ _ h => h) (Or.inl ⟨by rfl, ?_⟩) hHeld ?_ ?_; rotate_left
     · rintro w' ⟨s0, s1⟩; go_simp; with_reducible rfl
     rotate_left
     · simp only [ap]; rfl
     refine take_ (i := 5) (N := some 19) (v := ?_) (a' := ?_) (bA 9 51) rfl rfl (take_ofW HT_.out HW_.out (by kernel_rfl)) (fun _ _ _ h => h) (Or.inl ⟨by rfl, ?_⟩) hHeld ?_ ?_; rotate_left
     · rintro w' ⟨s0, s1⟩; go_simp; with_reducible rfl
     rotate_left
     · simp only [ap]; rfl
     refine one_ (i := 2) (N := some 16) (bA 9 55) rfl rfl (one_of HT_.out (by kernel_rfl)) (by decide) (fun K hK => ?_); refine goes_ Tryz.func33 (by kernel_rfl) rfl #[.int .i64 a0_0, .int .i64 10] (by rfl) rfl rfl (by (try simp only [mp]); first | done | rfl | (simp only [ld]; rfl)) ?_; (with_reducible refine (strconv_FormatInt_33.calls a0_0 10 t261 _ (by first | exact FI.tb2 HTb HB HBW | exact FI.tb1 HTb HB | exact FI.tb3 HTb HB HBW | exact FI.tb1 HTb ab_) A11.out).mono ?_); rintro e w20 ⟨rfl, hb⟩; refine ⟨_, rfl, ?_⟩; replace HBW := hs HBW hb; clear hb; refine hK.out _ _ (hs2 HBW.out hH0) (fun hHeld => ?_); clear hK K; refine norm_ (a' := ?_) ?_ ?_; rotate_left
     · (show Act.put _ (some 16) _ = _); simp only [ap]; rfl
     refine pure_ (i := 3) (N := some 17) (v := ?_) (a' := ?_) (bA 9 63) rfl rfl (any_of HT_.out (by kernel_rfl)) (fun _ _ _ h => h) (Or.inl ⟨by rfl, ?_⟩) ?_ ?_; rotate_left
     · intro w'; go_simp; with_reducible rfl
     rotate_left
     · simp only [ap]; rfl
     refine one_ (i := 6) (N := some 20) (bA 9 127) rfl rfl (one_of HT_.out (by kernel_rfl)) (by decide) (fun K hK => ?_); refine goes_ Tryz.func33 (by kernel_rfl) rfl #[.int .i64 a0_1, .int .i64 10] (by rfl) rfl rfl (by (try simp only [mp]); first | done | rfl | (simp only [ld]; rfl)) ?_; (with_reducible refine (strconv_FormatInt_33.calls a0_1 10 t262 _ (by first | exact FI.tb2 HTb HB HBW | exact FI.tb1 HTb HB | exact FI.tb3 HTb HB HBW | exact FI.tb1 HTb ab_) A13.out).mono ?_); rintro e w21 ⟨rfl, hb⟩; refine ⟨_, rfl, ?_⟩; replace HBW := hs HBW hb; clear hb; refine hK.out _ _ (hs2 HBW.out hH0) (fun hHeld => ?_); clear hK K; refine norm_ (a' := ?_) ?_ ?_; rotate_left
     · (show Act.put _ (some 20) _ = _); simp only [ap]; rfl
     refine pure_ (i := 7) (N := some 21) (v := ?_) (a' := ?_) (bA 9 255) rfl rfl (any_of HT_.out (by kernel_rfl)) (fun _ _ _ h => h) (Or.inl ⟨by rfl, ?_⟩) ?_ ?_; rotate_left
     · intro w'; go_simp; with_reducible rfl
     rotate_left
     · simp only [ap]; rfl
     refine pure_ (i := 8) (N := some 2) (v := ?_) (a' := ?_) (bA 9 511) rfl rfl (any_of HT_.out (by kernel_rfl)) (fun _ _ _ h => h) (Or.inl ⟨by rfl, ?_⟩) ?_ ?_; rotate_left
     · intro w'; go_simp; with_reducible rfl
     rotate_left
     · simp only [ap]; rfl
     replace BK258 := kb BK258 HBW.out; replace HB := hs HB HBW.out; refine done_ (done_of HT_.out (by kernel_rfl)) ?_; clear HBW hH0; (try go_wp2); go_ret; exact en_
    · rw [if_neg c14] at H; exact absurd H (by simp)
   · rw [if_neg c12] at H; exact absurd H (by simp)
 · replace c3 := Bool.eq_false_iff.mpr c3; subst c3; rw [if_neg (show ¬ (false = true) by decide)] at H; obtain rfl := Option.some.inj H; go_enter Tryz.func52, Tryz.ntmps52; go_wp2_with (first | ((with_reducible refine gate_dst (N := 1) rfl ?_); refine bx_ 1 #[.int .i64 a0_0, .int .i64 a0_1] 23 ?_; intro gb258 hg w22 BK258 hb; have GE258 := hz_ hg HB; replace HB := hs HB hb; clear hb hg; obtain ⟨hcz23_0, hcz23_1⟩ := bc2 BK258.out; obtain ⟨hfz23_0, hfz23_1⟩ := bf2 BK258.out) | ((with_reducible refine gate_callee (f := 24) rfl ?_); refine goesL_ (some 5) rfl rfl Tryz.func24 (by kernel_rfl) rfl #[.agg #[.int .i64 a0_0, .int .i64 a0_1]] rfl (by (try simp only [mp]); first | done | rfl | (simp only [ld]; rfl)) ?_; (with_reducible refine (ratio_Is.calls k a0_0 a0_1 false _ A2.out).mono ?_); rintro e w24 ⟨rfl, hb⟩; refine ⟨_, rfl, ?_⟩; replace BK258 := kb BK258 hb; replace HB := hb_ w hb; )); go_ret; exact en_
def span_open.f (k : Nat) (a0_0 : Int) (a0_1 : Int) : Option (ByteArray) := (ratio_Is.f k a0_0 a0_1).bind fun t264 => (if t264 = true then ((ratio_Text.f k a0_0 a0_1).bind fun t265 => (some t265)) else (some (⟨#[42]⟩ : ByteArray)))
theorem span_open.mono : ∀ a0 a1 k, LeO (span_open.f k a0 a1) (span_open.f (k + 1) a0 a1) := by
 intro a0 a1 k
 unfold span_open.f
 repeat' first
   | (with_reducible exact ratio_Is.mono _ _ _)
   | (with_reducible exact ratio_Text.mono _ _ _)
   | (with_reducible exact LeO.refl _)
   | (with_reducible exact LeO.none _)
   | (with_reducible refine LeO.ite ?_ ?_)
   | (with_reducible refine LeO.bind ?_ (fun _ => ?_))
   | exact ratio_Is.mono _ _ _
   | exact ratio_Text.mono _ _ _
   | exact LeO.none _
   | refine LeO.ite ?_ ?_
   | refine LeO.bind ?_ (fun _ => ?_)
set_option maxHeartbeats 8000000 in
set_option maxRecDepth 100000 in
theorem span_open.calls (k : Nat) (a0_0 : Int) (a0_1 : Int) (r : ByteArray) (w : World) (htab : FI.Tb w) (h : span_open.f k a0_0 a0_1 = some r) :
  Calls Tryz.prog 32 #[.agg #[.int .i64 a0_0, .int .i64 a0_1]] w fun e w' => e = .returned (.string r) ∧ Below w.heap.size w w' := by
 have HTb := Aside0.mk htab; clear htab
 have hu23 := Tryz.underlying23; have HB := Aside0.mk (Below.refl w.heap.size w); have H : ((ratio_Is.f k a0_0 a0_1).bind fun t264 => (if t264 = true then ((ratio_Text.f k a0_0 a0_1).bind fun t265 => (some t265)) else (some (⟨#[42]⟩ : ByteArray)))) = some r := h; clear h; replace H := Option.bind_eq_some_iff.mp H; obtain ⟨t264, A20, H⟩ := H; (try dsimp only at H); have A2 := Aside0.mk A20; clear A20; by_cases c3 : t264 = true
 · subst c3; rw [if_pos rfl] at H; replace H := Option.bind_eq_some_iff.mp H; obtain ⟨t265, A40, H⟩ := H; (try dsimp only at H); have A4 := Aside0.mk A40; clear A40; obtain rfl := Option.some.inj H; go_enter Tryz.func32, Tryz.ntmps32; go_wp2_with (first | ((with_reducible refine gate_dst (N := 1) rfl ?_); refine bx_ 1 #[.int .i64 a0_0, .int .i64 a0_1] 23 ?_; intro gb263 hg w5 BK263 hb; have GE263 := hz_ hg HB; replace HB := hs HB hb; clear hb hg; obtain ⟨hcz6_0, hcz6_1⟩ := bc2 BK263.out; obtain ⟨hfz6_0, hfz6_1⟩ := bf2 BK263.out) | ((with_reducible refine gate_callee (f := 24) rfl ?_); refine goesL_ (some 4) rfl rfl Tryz.func24 (by kernel_rfl) rfl #[.agg #[.int .i64 a0_0, .int .i64 a0_1]] rfl (by (try simp only [mp]); first | done | rfl | (simp only [ld]; rfl)) ?_; (with_reducible refine (ratio_Is.calls k a0_0 a0_1 true _ A2.out).mono ?_); rintro e w7 ⟨rfl, hb⟩; refine ⟨_, rfl, ?_⟩; replace BK263 := kb BK263 hb; replace HB := hb_ w hb; obtain ⟨hcz8_0, hcz8_1⟩ := bc2 BK263.out; obtain ⟨hfz8_0, hfz8_1⟩ := bf2 BK263.out) | ((with_reducible refine gate_callee (f := 52) rfl ?_); refine goesL_ (some 7) rfl rfl Tryz.func52 (by kernel_rfl) rfl #[.agg #[.int .i64 a0_0, .int .i64 a0_1]] rfl (by (try simp only [mp]); first | done | rfl | (simp only [ld]; rfl)) ?_; (with_reducible refine (ratio_Text.calls k a0_0 a0_1 t265 _ (by first | exact FI.tb2 HTb HB HBW | exact FI.tb1 HTb HB | exact FI.tb3 HTb HB HBW | exact FI.tb1 HTb ab_) A4.out).mono ?_); rintro e w9 ⟨rfl, hb⟩; refine ⟨_, rfl, ?_⟩; replace BK263 := kb BK263 hb; replace HB := hb_ w hb; )); go_ret; exact en_
 · replace c3 := Bool.eq_false_iff.mpr c3; subst c3; rw [if_neg (show ¬ (false = true) by decide)] at H; obtain rfl := Option.some.inj H; go_enter Tryz.func32, Tryz.ntmps32; go_wp2_with (first | ((with_reducible refine gate_dst (N := 1) rfl ?_); refine bx_ 1 #[.int .i64 a0_0, .int .i64 a0_1] 23 ?_; intro gb263 hg w10 BK263 hb; have GE263 := hz_ hg HB; replace HB := hs HB hb; clear hb hg; obtain ⟨hcz11_0, hcz11_1⟩ := bc2 BK263.out; obtain ⟨hfz11_0, hfz11_1⟩ := bf2 BK263.out) | ((with_reducible refine gate_callee (f := 24) rfl ?_); refine goesL_ (some 4) rfl rfl Tryz.func24 (by kernel_rfl) rfl #[.agg #[.int .i64 a0_0, .int .i64 a0_1]] rfl (by (try simp only [mp]); first | done | rfl | (simp only [ld]; rfl)) ?_; (with_reducible refine (ratio_Is.calls k a0_0 a0_1 false _ A2.out).mono ?_); rintro e w12 ⟨rfl, hb⟩; refine ⟨_, rfl, ?_⟩; replace BK263 := kb BK263 hb; replace HB := hb_ w hb; )); go_ret; exact en_
def span_Text.j0 : Nat → ByteArray → Int → Int → Int → Int → Int → Bool → Bool → Option (ByteArray)
 | 0, _, _, _, _, _, _, _, _ => none
 | k + 1, x3, x267000, x267001, x267002, x267003, x267004, x267005, x267006 => if x267006 = true then (if 2 + x3.size ≤ 9223372036854775807 then (some ((⟨#[91, 93]⟩ : ByteArray) ++ x3)) else (none)) else ((span_open.f k x267000 x267001).bind fun t274 => (if 1 + t274.size ≤ 9223372036854775807 then (if ((⟨#[91]⟩ : ByteArray) ++ t274).size + 1 ≤ 9223372036854775807 then ((span_open.f k x267002 x267003).bind fun t275 => (if (((⟨#[91]⟩ : ByteArray) ++ t274) ++ (⟨#[44]⟩ : ByteArray)).size + t275.size ≤ 9223372036854775807 then (if ((((⟨#[91]⟩ : ByteArray) ++ t274) ++ (⟨#[44]⟩ : ByteArray)) ++ t275).size + 2 ≤ 9223372036854775807 then ((strconv_FormatInt_33.f x267004 10).bind fun t276 => (if (((((⟨#[91]⟩ : ByteArray) ++ t274) ++ (⟨#[44]⟩ : ByteArray)) ++ t275) ++ (⟨#[93, 47]⟩ : ByteArray)).size + t276.size ≤ 9223372036854775807 then (if ((((((⟨#[91]⟩ : ByteArray) ++ t274) ++ (⟨#[44]⟩ : ByteArray)) ++ t275) ++ (⟨#[93, 47]⟩ : ByteArray)) ++ t276).size + x3.size ≤ 9223372036854775807 then (some (((((((⟨#[91]⟩ : ByteArray) ++ t274) ++ (⟨#[44]⟩ : ByteArray)) ++ t275) ++ (⟨#[93, 47]⟩ : ByteArray)) ++ t276) ++ x3)) else (none)) else (none))) else (none)) else (none))) else (none)) else (none)))
def span_Text.f (k : Nat) (a0_0 : Int) (a0_1 : Int) (a0_2 : Int) (a0_3 : Int) (a0_4 : Int) (a0_5 : Bool) (a0_6 : Bool) : Option (ByteArray) := (span_valid.f k a0_0 a0_1 a0_2 a0_3 a0_4 a0_5 a0_6).bind fun bt267 => (if bt267.2.2.2.2.2.1 = true then (span_Text.j0 k (⟨#[32, 110, 111, 110, 101]⟩ : ByteArray) bt267.1 bt267.2.1 bt267.2.2.1 bt267.2.2.2.1 bt267.2.2.2.2.1 bt267.2.2.2.2.2.1 bt267.2.2.2.2.2.2) else (span_Text.j0 k (⟨#[]⟩ : ByteArray) bt267.1 bt267.2.1 bt267.2.2.1 bt267.2.2.2.1 bt267.2.2.2.2.1 bt267.2.2.2.2.2.1 bt267.2.2.2.2.2.2))
theorem span_Text.mono_l : ∀ k, (∀ y0 y1 y2 y3 y4 y5 y6 y7, LeO (span_Text.j0 k y0 y1 y2 y3 y4 y5 y6 y7) (span_Text.j0 (k + 1) y0 y1 y2 y3 y4 y5 y6 y7))
 | 0 => fun _ _ _ _ _ _ _ _ r h => by simp [span_Text.j0] at h
 | k + 1 => by
  have ih0 := span_Text.mono_l k
  ·
   intro y0 y1 y2 y3 y4 y5 y6 y7
   unfold span_Text.j0
   repeat' first
   | (with_reducible exact ih0 _ _ _ _ _ _ _ _)
   | (with_reducible exact span_open.mono _ _ _)
   | (with_reducible exact span_valid.mono _ _ _ _ _ _ _ _)
   | (with_reducible exact LeO.refl _)
   | (with_reducible exact LeO.none _)
   | (with_reducible refine LeO.ite ?_ ?_)
   | (with_reducible refine LeO.bind ?_ (fun _ => ?_))
   | exact ih0 _ _ _ _ _ _ _ _
   | exact span_open.mono _ _ _
   | exact span_valid.mono _ _ _ _ _ _ _ _
   | exact LeO.none _
   | refine LeO.ite ?_ ?_
   | refine LeO.bind ?_ (fun _ => ?_)
theorem span_Text.mono : ∀ a0 a1 a2 a3 a4 a5 a6 k, LeO (span_Text.f k a0 a1 a2 a3 a4 a5 a6) (span_Text.f (k + 1) a0 a1 a2 a3 a4 a5 a6) := by
 intro a0 a1 a2 a3 a4 a5 a6 k
 have ih0 := span_Text.mono_l k
 unfold span_Text.f
 repeat' first
   | (with_reducible exact ih0 _ _ _ _ _ _ _ _)
   | (with_reducible exact span_open.mono _ _ _)
   | (with_reducible exact span_valid.mono _ _ _ _ _ _ _ _)
   | (with_reducible exact LeO.refl _)
   | (with_reducible exact LeO.none _)
   | (with_reducible refine LeO.ite ?_ ?_)
   | (with_reducible refine LeO.bind ?_ (fun _ => ?_))
   | exact ih0 _ _ _ _ _ _ _ _
   | exact span_open.mono _ _ _
   | exact span_valid.mono _ _ _ _ _ _ _ _
   | exact LeO.none _
   | refine LeO.ite ?_ ?_
   | refine LeO.bind ?_ (fun _ => ?_)
def span_Text.T7 : Bool × List (List Nat × List Nat) := (true, [([], []), ([0], [0]), ([1], [1]), ([2], [2]), ([3], [3]), ([], []), ([5], [5]), ([6, 2], [6]), ([4, 7], [4, 7]), ([8], [8]), ([], []), ([10], [10]), ([11, 7], [11]), ([9, 12], [9, 12]), ([], []), ([13, 14], [13, 14]), ([15, 12, 0, 1, 2, 3, 4, 5, 6, 7, 8, 9, 10, 11, 12, 13, 14, 15], [15])])
def span_Text.B7 : List Nat := [0, 1, 3, 7, 15, 0, 32, 103, 255, 511, 0, 1024, 3303, 8191, 0, 32767, 65535]
theorem span_Text.tab7 : rtab .any (opsOf Tryz.f10 7) = span_Text.T7 := by kernel_rfl
theorem span_Text.bits7 : waitsOk span_Text.T7.2 span_Text.B7 = true := by kernel_rfl
set_option maxHeartbeats 8000000 in
set_option maxRecDepth 100000 in
theorem span_Text.calls (k : Nat) (a0_0 : Int) (a0_1 : Int) (a0_2 : Int) (a0_3 : Int) (a0_4 : Int) (a0_5 : Bool) (a0_6 : Bool) (r : ByteArray) (w : World) (htab : FI.Tb w) (h : span_Text.f k a0_0 a0_1 a0_2 a0_3 a0_4 a0_5 a0_6 = some r) :
  Calls Tryz.prog 10 #[.agg #[.int .i64 a0_0, .int .i64 a0_1, .int .i64 a0_2, .int .i64 a0_3, .int .i64 a0_4, .bool a0_5, .bool a0_6]] w fun e w' => e = .returned (.string r) ∧ Below w.heap.size w w' := by
 have HTb := Aside0.mk htab; clear htab
 have hu25 := Tryz.underlying25; have hu23 := Tryz.underlying23; have HB := Aside0.mk (Below.refl w.heap.size w); have H : ((span_valid.f k a0_0 a0_1 a0_2 a0_3 a0_4 a0_5 a0_6).bind fun bt267 => (if bt267.2.2.2.2.2.1 = true then (span_Text.j0 k (⟨#[32, 110, 111, 110, 101]⟩ : ByteArray) bt267.1 bt267.2.1 bt267.2.2.1 bt267.2.2.2.1 bt267.2.2.2.2.1 bt267.2.2.2.2.2.1 bt267.2.2.2.2.2.2) else (span_Text.j0 k (⟨#[]⟩ : ByteArray) bt267.1 bt267.2.1 bt267.2.2.1 bt267.2.2.2.1 bt267.2.2.2.2.1 bt267.2.2.2.2.2.1 bt267.2.2.2.2.2.2))) = some r := h; clear h; replace H := Option.bind_eq_some_iff.mp H; obtain ⟨⟨t267, t268, t269, t270, t271, t272, t273⟩, A20, H⟩ := H; (try dsimp only at H); have A2 := Aside0.mk A20; clear A20; have HC3 := Aside0.mk H; clear H; go_enter Tryz.func10, Tryz.ntmps10; go_upto_if 7 with (first | ((with_reducible refine gate_dst (N := 1) rfl ?_); refine bx_ 1 #[.int .i64 a0_0, .int .i64 a0_1, .int .i64 a0_2, .int .i64 a0_3, .int .i64 a0_4, .bool a0_5, .bool a0_6] 25 ?_; intro gb266 hg w4 BK266 hb; have GE266 := hz_ hg HB; replace HB := hs HB hb; clear hb hg; obtain ⟨hcz5_0, hcz5_1, hcz5_2, hcz5_3, hcz5_4, hcz5_5, hcz5_6⟩ := bc7 BK266.out; obtain ⟨hfz5_0, hfz5_1, hfz5_2, hfz5_3, hfz5_4, hfz5_5, hfz5_6⟩ := bf7 BK266.out) | ((with_reducible refine gate_callee (f := 30) rfl ?_); refine goesL_ (some 5) rfl rfl Tryz.func30 (by kernel_rfl) rfl #[.agg #[.int .i64 a0_0, .int .i64 a0_1, .int .i64 a0_2, .int .i64 a0_3, .int .i64 a0_4, .bool a0_5, .bool a0_6]] rfl (by (try simp only [mp]); first | done | rfl | (simp only [ld]; rfl)) ?_; (with_reducible refine (span_valid.calls k a0_0 a0_1 a0_2 a0_3 a0_4 a0_5 a0_6 t267 t268 t269 t270 t271 t272 t273 _ A2.out).mono ?_); rintro e w6 ⟨rfl, hb⟩; refine ⟨_, rfl, ?_⟩; replace BK266 := kb BK266 hb; replace HB := hb_ w hb; obtain ⟨hcz7_0, hcz7_1, hcz7_2, hcz7_3, hcz7_4, hcz7_5, hcz7_6⟩ := bc7 BK266.out; obtain ⟨hfz7_0, hfz7_1, hfz7_2, hfz7_3, hfz7_4, hfz7_5, hfz7_6⟩ := bf7 BK266.out)); (try simp only [Act.put, List.setIfInBounds_toArray, List.set_cons_zero, List.set_cons_succ])
 go_cut [3] (fun v3 wc => ∃ (kq : Nat) (x3_2 : ByteArray), v3 = .string x3_2 ∧ Aside0 (span_Text.j0 kq x3_2 t267 t268 t269 t270 t271 t272 t273 = some r) ∧ Aside0 (kq ≤ k) ∧ Aside0 (wc.heap[gb266]? = some (.cells #[.int .i64 t267, .int .i64 t268, .int .i64 t269, .int .i64 t270, .int .i64 t271, .bool t272, .bool t273] 25 (0, 0))) ∧ Aside0 (Below w.heap.size w wc))
 case first =>
  have H := HC3.out; clear HC3; by_cases c8 : t272 = true
  ·
   subst c8; rw [if_pos rfl] at H; have H' := Aside0.mk H; clear H; go_wp2; go_meet
   case rel => exact ⟨_, ((⟨#[32, 110, 111, 110, 101]⟩ : ByteArray)), (by first | rfl | (simp; done) | (simp [*]; done)), H', ⟨by first | omega | exact Nat.le_refl _⟩, ⟨by exact rq BK266.out (by rfl)⟩, ab2_⟩
  ·
   replace c8 := Bool.eq_false_iff.mpr c8; subst c8; rw [if_neg (show ¬ (false = true) by decide)] at H; have H' := Aside0.mk H; clear H; go_wp2; go_meet
   case rel => exact ⟨_, ((⟨#[]⟩ : ByteArray)), (by first | rfl | (simp; done) | (simp [*]; done)), H', ⟨by first | omega | exact Nat.le_refl _⟩, ⟨by exact rq BK266.out (by rfl)⟩, ab2_⟩
 case rest =>
  clear HC3; (try clear hcz5_0 hcz5_1 hcz5_2 hcz5_3 hcz5_4 hcz5_5 hcz5_6); (try clear hcz7_0 hcz7_1 hcz7_2 hcz7_3 hcz7_4 hcz7_5 hcz7_6); (try clear hfz5_0 hfz5_1 hfz5_2 hfz5_3 hfz5_4 hfz5_5 hfz5_6); (try clear hfz7_0 hfz7_1 hfz7_2 hfz7_3 hfz7_4 hfz7_5 hfz7_6); obtain ⟨kq, x3_2, rfl, HA, HJ2, BK266, HB⟩ := hcut; cases kq with
  | zero => exact absurd HA.out (by simp [span_Text.j0])
  | succ kj2 =>
   have H := HA.out; clear HA; simp only [span_Text.j0] at H; by_cases c9 : t273 = true
   ·
    subst c9; rw [if_pos rfl] at H; by_cases c10 : 2 + x3_2.size ≤ 9223372036854775807
    · rw [if_pos c10] at H; have c10b0 := eq_true c10; have c10b1 : decide (2 + x3_2.size ≤ 9223372036854775807) = true := decide_eq_true c10; (try have c10b2 : (9223372036854775807 < 2 + x3_2.size) = False := eq_false (Nat.not_lt.2 c10)); obtain rfl := Option.some.inj H; obtain ⟨hcz11_0, hcz11_1, hcz11_2, hcz11_3, hcz11_4, hcz11_5, hcz11_6⟩ := bc7 BK266.out; obtain ⟨hfz11_0, hfz11_1, hfz11_2, hfz11_3, hfz11_4, hfz11_5, hfz11_6⟩ := bf7 BK266.out; go_wp2; go_ret; exact en_
    · rw [if_neg c10] at H; exact absurd H (by simp)
   ·
    replace c9 := Bool.eq_false_iff.mpr c9; subst c9; rw [if_neg (show ¬ (false = true) by decide)] at H; replace H := Option.bind_eq_some_iff.mp H; obtain ⟨t274, A120, H⟩ := H; (try dsimp only at H); have A12 := Aside0.mk A120; clear A120; by_cases c13 : 1 + t274.size ≤ 9223372036854775807
    ·
     rw [if_pos c13] at H; have c13b0 := eq_true c13; have c13b1 : decide (1 + t274.size ≤ 9223372036854775807) = true := decide_eq_true c13; (try have c13b2 : (9223372036854775807 < 1 + t274.size) = False := eq_false (Nat.not_lt.2 c13)); by_cases c14 : ((⟨#[91]⟩ : ByteArray) ++ t274).size + 1 ≤ 9223372036854775807
     ·
      rw [if_pos c14] at H; have c14b0 := eq_true c14; have c14s : (9223372036854775807 < 1 + t274.size + 1) = False := eq_false (by have h_ := c14; simp only [ByteArray.size_append] at h_; have e0 : (⟨#[91]⟩ : ByteArray).size = 1 := rfl; omega); have c14b1 : decide (((⟨#[91]⟩ : ByteArray) ++ t274).size + 1 ≤ 9223372036854775807) = true := decide_eq_true c14; (try have c14b2 : (9223372036854775807 < ((⟨#[91]⟩ : ByteArray) ++ t274).size + 1) = False := eq_false (Nat.not_lt.2 c14)); replace H := Option.bind_eq_some_iff.mp H; obtain ⟨t275, A150, H⟩ := H; (try dsimp only at H); have A15 := Aside0.mk A150; clear A150; by_cases c16 : (((⟨#[91]⟩ : ByteArray) ++ t274) ++ (⟨#[44]⟩ : ByteArray)).size + t275.size ≤ 9223372036854775807
      ·
       rw [if_pos c16] at H; have c16b0 := eq_true c16; have c16s : (9223372036854775807 < 1 + t274.size + 1 + t275.size) = False := eq_false (by have h_ := c16; simp only [ByteArray.size_append] at h_; have e0 : (⟨#[44]⟩ : ByteArray).size = 1 := rfl; have e1 : (⟨#[91]⟩ : ByteArray).size = 1 := rfl; omega); have c16b1 : decide ((((⟨#[91]⟩ : ByteArray) ++ t274) ++ (⟨#[44]⟩ : ByteArray)).size + t275.size ≤ 9223372036854775807) = true := decide_eq_true c16; (try have c16b2 : (9223372036854775807 < (((⟨#[91]⟩ : ByteArray) ++ t274) ++ (⟨#[44]⟩ : ByteArray)).size + t275.size) = False := eq_false (Nat.not_lt.2 c16)); by_cases c17 : ((((⟨#[91]⟩ : ByteArray) ++ t274) ++ (⟨#[44]⟩ : ByteArray)) ++ t275).size + 2 ≤ 9223372036854775807
       ·
        rw [if_pos c17] at H; have c17b0 := eq_true c17; have c17s : (9223372036854775807 < 1 + t274.size + 1 + t275.size + 2) = False := eq_false (by have h_ := c17; simp only [ByteArray.size_append] at h_; have e0 : (⟨#[44]⟩ : ByteArray).size = 1 := rfl; have e1 : (⟨#[91]⟩ : ByteArray).size = 1 := rfl; omega); have c17b1 : decide (((((⟨#[91]⟩ : ByteArray) ++ t274) ++ (⟨#[44]⟩ : ByteArray)) ++ t275).size + 2 ≤ 9223372036854775807) = true := decide_eq_true c17; (try have c17b2 : (9223372036854775807 < ((((⟨#[91]⟩ : ByteArray) ++ t274) ++ (⟨#[44]⟩ : ByteArray)) ++ t275).size + 2) = False := eq_false (Nat.not_lt.2 c17)); replace H := Option.bind_eq_some_iff.mp H; obtain ⟨t276, A180, H⟩ := H; (try dsimp only at H); have A18 := Aside0.mk A180; clear A180; by_cases c19 : (((((⟨#[91]⟩ : ByteArray) ++ t274) ++ (⟨#[44]⟩ : ByteArray)) ++ t275) ++ (⟨#[93, 47]⟩ : ByteArray)).size + t276.size ≤ 9223372036854775807
        ·
         rw [if_pos c19] at H; have c19b0 := eq_true c19; have c19s : (9223372036854775807 < 1 + t274.size + 1 + t275.size + 2 + t276.size) = False := eq_false (by have h_ := c19; simp only [ByteArray.size_append] at h_; have e0 : (⟨#[44]⟩ : ByteArray).size = 1 := rfl; have e1 : (⟨#[91]⟩ : ByteArray).size = 1 := rfl; have e2 : (⟨#[93, 47]⟩ : ByteArray).size = 2 := rfl; omega); have c19b1 : decide ((((((⟨#[91]⟩ : ByteArray) ++ t274) ++ (⟨#[44]⟩ : ByteArray)) ++ t275) ++ (⟨#[93, 47]⟩ : ByteArray)).size + t276.size ≤ 9223372036854775807) = true := decide_eq_true c19; (try have c19b2 : (9223372036854775807 < (((((⟨#[91]⟩ : ByteArray) ++ t274) ++ (⟨#[44]⟩ : ByteArray)) ++ t275) ++ (⟨#[93, 47]⟩ : ByteArray)).size + t276.size) = False := eq_false (Nat.not_lt.2 c19)); by_cases c20 : ((((((⟨#[91]⟩ : ByteArray) ++ t274) ++ (⟨#[44]⟩ : ByteArray)) ++ t275) ++ (⟨#[93, 47]⟩ : ByteArray)) ++ t276).size + x3_2.size ≤ 9223372036854775807
         ·
          rw [if_pos c20] at H; have c20b0 := eq_true c20; have c20s : (9223372036854775807 < 1 + t274.size + 1 + t275.size + 2 + t276.size + x3_2.size) = False := eq_false (by have h_ := c20; simp only [ByteArray.size_append] at h_; have e0 : (⟨#[44]⟩ : ByteArray).size = 1 := rfl; have e1 : (⟨#[91]⟩ : ByteArray).size = 1 := rfl; have e2 : (⟨#[93, 47]⟩ : ByteArray).size = 2 := rfl; omega); have c20b1 : decide (((((((⟨#[91]⟩ : ByteArray) ++ t274) ++ (⟨#[44]⟩ : ByteArray)) ++ t275) ++ (⟨#[93, 47]⟩ : ByteArray)) ++ t276).size + x3_2.size ≤ 9223372036854775807) = true := decide_eq_true c20; (try have c20b2 : (9223372036854775807 < ((((((⟨#[91]⟩ : ByteArray) ++ t274) ++ (⟨#[44]⟩ : ByteArray)) ++ t275) ++ (⟨#[93, 47]⟩ : ByteArray)) ++ t276).size + x3_2.size) = False := eq_false (Nat.not_lt.2 c20)); obtain rfl := Option.some.inj H; obtain ⟨hcz21_0, hcz21_1, hcz21_2, hcz21_3, hcz21_4, hcz21_5, hcz21_6⟩ := bc7 BK266.out; obtain ⟨hfz21_0, hfz21_1, hfz21_2, hfz21_3, hfz21_4, hfz21_5, hfz21_6⟩ := bf7 BK266.out; (try go_wp2); replace BK266 := kd BK266; replace HB := Aside0.mk (below_drew1 HB.out); refine start_ (n := 17) (S := fun w' => w'.cell? ⟨gb266, 0, none⟩ = some (.int .i64 t267) ∧ w'.cell? ⟨gb266, 1, none⟩ = some (.int .i64 t268) ∧ w'.cell? ⟨gb266, 2, none⟩ = some (.int .i64 t269) ∧ w'.cell? ⟨gb266, 3, none⟩ = some (.int .i64 t270) ∧ w'.cell? ⟨gb266, 4, none⟩ = some (.int .i64 t271) ∧ w'.cell? ⟨gb266, 5, none⟩ = some (.bool t272) ∧ w'.cell? ⟨gb266, 6, none⟩ = some (.bool false)) (ds := []) (bA 17 0) (by kernel_rfl) rfl rfl ⟨(blk_cell BK266.out 0).trans rfl, (blk_cell BK266.out 1).trans rfl, (blk_cell BK266.out 2).trans rfl, (blk_cell BK266.out 3).trans rfl, (blk_cell BK266.out 4).trans rfl, (blk_cell BK266.out 5).trans rfl, (blk_cell BK266.out 6).trans rfl⟩ (fun hHeld => ?_); refine with_tabW span_Text.tab7 span_Text.bits7 (fun HT_ HW_ => ?_); generalize wc.drew = w22 at BK266 HB hHeld ⊢; have hH0 := hHeld; have HBW := hbw w22; refine pure_ (i := 0) (N := some 12) (v := ?_) (a' := ?_) (bA 17 1) rfl rfl (any_of HT_.out (by kernel_rfl)) (fun _ _ _ h => h) (Or.inl ⟨by rfl, ?_⟩) ?_ ?_; rotate_left
          · intro w'; go_simp; with_reducible rfl
          rotate_left
          · simp only [ap]; rfl
          refine pure_ (i := 5) (N := some 17) (v := ?_) (a' := ?_) (bA 17 33) rfl rfl (any_of HT_.out (by kernel_rfl)) (fun _ _ _ h => h) (Or.inl ⟨by rfl, ?_⟩) ?_ ?_; rotate_left
          · intro w'; go_simp; with_reducible rfl
          rotate_left
          · simp only [ap]; rfl
          refine pure_ (i := 10) (N := some 22) (v := ?_) (a' := ?_) (bA 17 1057) rfl rfl (any_of HT_.out (by kernel_rfl)) (fun _ _ _ h => h) (Or.inl ⟨by rfl, ?_⟩) ?_ ?_; rotate_left
          · intro w'; go_simp; with_reducible rfl
          rotate_left
          · simp only [ap]; rfl
          refine pure_ (i := 14) (N := some 26) (v := ?_) (a' := ?_) (bA 17 17441) rfl rfl (any_of HT_.out (by kernel_rfl)) (fun _ _ _ h => h) (Or.inl ⟨by rfl, ?_⟩) ?_ ?_; rotate_left
          · intro w'; go_simp; with_reducible rfl
          rotate_left
          · simp only [ap]; rfl
          refine take_ (i := 1) (N := some 13) (v := ?_) (a' := ?_) (bA 17 17443) rfl rfl (take_ofW HT_.out HW_.out (by kernel_rfl)) (fun _ _ _ h => h) (Or.inl ⟨by rfl, ?_⟩) hHeld ?_ ?_; rotate_left
          · rintro w' ⟨s0, s1, s2, s3, s4, s5, s6⟩; go_simp; with_reducible rfl
          rotate_left
          · simp only [ap]; rfl
          refine take_ (i := 6) (N := some 18) (v := ?_) (a' := ?_) (bA 17 17507) rfl rfl (take_ofW HT_.out HW_.out (by kernel_rfl)) (fun _ _ _ h => h) (Or.inl ⟨by rfl, ?_⟩) hHeld ?_ ?_; rotate_left
          · rintro w' ⟨s0, s1, s2, s3, s4, s5, s6⟩; go_simp; with_reducible rfl
          rotate_left
          · simp only [ap]; rfl
          refine take_ (i := 11) (N := some 23) (v := ?_) (a' := ?_) (bA 17 19555) rfl rfl (take_ofW HT_.out HW_.out (by kernel_rfl)) (fun _ _ _ h => h) (Or.inl ⟨by rfl, ?_⟩) hHeld ?_ ?_; rotate_left
          · rintro w' ⟨s0, s1, s2, s3, s4, s5, s6⟩; go_simp; with_reducible rfl
          rotate_left
          · simp only [ap]; rfl
          refine one_ (i := 2) (N := some 14) (bA 17 19559) rfl rfl (one_of HT_.out (by kernel_rfl)) (by decide) (fun K hK => ?_); refine goes_ Tryz.func32 (by kernel_rfl) rfl #[.agg #[.int .i64 t267, .int .i64 t268]] (by rfl) rfl rfl (by (try simp only [mp]); first | done | rfl | (simp only [ld]; rfl)) ?_; (with_reducible refine (span_open.calls kj2 t267 t268 t274 _ (by first | exact FI.tb2 HTb HB HBW | exact FI.tb1 HTb HB | exact FI.tb3 HTb HB HBW | exact FI.tb1 HTb ab_) A12.out).mono ?_); rintro e w23 ⟨rfl, hb⟩; refine ⟨_, rfl, ?_⟩; replace HBW := hs HBW hb; clear hb; refine hK.out _ _ (hs7 HBW.out hH0) (fun hHeld => ?_); clear hK K; refine norm_ (a' := ?_) ?_ ?_; rotate_left
          · (show Act.put _ (some 14) _ = _); simp only [ap]; rfl
          refine pure_ (i := 3) (N := some 15) (v := ?_) (a' := ?_) (bA 17 19567) rfl rfl (any_of HT_.out (by kernel_rfl)) (fun _ _ _ h => h) (Or.inl ⟨by rfl, ?_⟩) ?_ ?_; rotate_left
          · intro w'; go_simp; with_reducible rfl
          rotate_left
          · simp only [ap]; rfl
          refine pure_ (i := 4) (N := some 16) (v := ?_) (a' := ?_) (bA 17 19583) rfl rfl (any_of HT_.out (by kernel_rfl)) (fun _ _ _ h => h) (Or.inl ⟨by rfl, ?_⟩) ?_ ?_; rotate_left
          · intro w'; go_simp; with_reducible rfl
          rotate_left
          · simp only [ap]; rfl
          refine one_ (i := 7) (N := some 19) (bA 17 19711) rfl rfl (one_of HT_.out (by kernel_rfl)) (by decide) (fun K hK => ?_); refine goes_ Tryz.func32 (by kernel_rfl) rfl #[.agg #[.int .i64 t269, .int .i64 t270]] (by rfl) rfl rfl (by (try simp only [mp]); first | done | rfl | (simp only [ld]; rfl)) ?_; (with_reducible refine (span_open.calls kj2 t269 t270 t275 _ (by first | exact FI.tb2 HTb HB HBW | exact FI.tb1 HTb HB | exact FI.tb3 HTb HB HBW | exact FI.tb1 HTb ab_) A15.out).mono ?_); rintro e w24 ⟨rfl, hb⟩; refine ⟨_, rfl, ?_⟩; replace HBW := hs HBW hb; clear hb; refine hK.out _ _ (hs7 HBW.out hH0) (fun hHeld => ?_); clear hK K; refine norm_ (a' := ?_) ?_ ?_; rotate_left
          · (show Act.put _ (some 19) _ = _); simp only [ap]; rfl
          refine pure_ (i := 8) (N := some 20) (v := ?_) (a' := ?_) (bA 17 19967) rfl rfl (any_of HT_.out (by kernel_rfl)) (fun _ _ _ h => h) (Or.inl ⟨by rfl, ?_⟩) ?_ ?_; rotate_left
          · intro w'; go_simp; with_reducible rfl
          rotate_left
          · simp only [ap]; rfl
          refine pure_ (i := 9) (N := some 21) (v := ?_) (a' := ?_) (bA 17 20479) rfl rfl (any_of HT_.out (by kernel_rfl)) (fun _ _ _ h => h) (Or.inl ⟨by rfl, ?_⟩) ?_ ?_; rotate_left
          · intro w'; go_simp; with_reducible rfl
          rotate_left
          · simp only [ap]; rfl
          refine one_ (i := 12) (N := some 24) (bA 17 24575) rfl rfl (one_of HT_.out (by kernel_rfl)) (by decide) (fun K hK => ?_); refine goes_ Tryz.func33 (by kernel_rfl) rfl #[.int .i64 t271, .int .i64 10] (by rfl) rfl rfl (by (try simp only [mp]); first | done | rfl | (simp only [ld]; rfl)) ?_; (with_reducible refine (strconv_FormatInt_33.calls t271 10 t276 _ (by first | exact FI.tb2 HTb HB HBW | exact FI.tb1 HTb HB | exact FI.tb3 HTb HB HBW | exact FI.tb1 HTb ab_) A18.out).mono ?_); rintro e w25 ⟨rfl, hb⟩; refine ⟨_, rfl, ?_⟩; replace HBW := hs HBW hb; clear hb; refine hK.out _ _ (hs7 HBW.out hH0) (fun hHeld => ?_); clear hK K; refine norm_ (a' := ?_) ?_ ?_; rotate_left
          · (show Act.put _ (some 24) _ = _); simp only [ap]; rfl
          refine pure_ (i := 13) (N := some 25) (v := ?_) (a' := ?_) (bA 17 32767) rfl rfl (any_of HT_.out (by kernel_rfl)) (fun _ _ _ h => h) (Or.inl ⟨by rfl, ?_⟩) ?_ ?_; rotate_left
          · intro w'; go_simp; with_reducible rfl
          rotate_left
          · simp only [ap]; rfl
          refine pure_ (i := 15) (N := some 27) (v := ?_) (a' := ?_) (bA 17 65535) rfl rfl (any_of HT_.out (by kernel_rfl)) (fun _ _ _ h => h) (Or.inl ⟨by rfl, ?_⟩) ?_ ?_; rotate_left
          · intro w'; go_simp; with_reducible rfl
          rotate_left
          · simp only [ap]; rfl
          refine pure_ (i := 16) (N := some 2) (v := ?_) (a' := ?_) (bA 17 131071) rfl rfl (any_of HT_.out (by kernel_rfl)) (fun _ _ _ h => h) (Or.inl ⟨by rfl, ?_⟩) ?_ ?_; rotate_left
          · intro w'; go_simp; with_reducible rfl
          rotate_left
          · simp only [ap]; rfl
          replace BK266 := kb BK266 HBW.out; replace HB := hs HB HBW.out; refine done_ (done_of HT_.out (by kernel_rfl)) ?_; clear HBW hH0; (try go_wp2); go_ret; exact en_
         · rw [if_neg c20] at H; exact absurd H (by simp)
        · rw [if_neg c19] at H; exact absurd H (by simp)
       · rw [if_neg c17] at H; exact absurd H (by simp)
      · rw [if_neg c16] at H; exact absurd H (by simp)
     · rw [if_neg c14] at H; exact absurd H (by simp)
    · rw [if_neg c13] at H; exact absurd H (by simp)
def serinetteref01_Text.f (k : Nat) (a0_0 : Int) (a0_1 : Int) : Option (ByteArray) := (serinetteref01_Is.f k a0_0 a0_1).bind fun t278 => (if t278 = true then ((strconv_FormatInt_33.f a0_0 10).bind fun t279 => (if a0_1 = 1 then (some t279) else (if t279.size + 1 ≤ 9223372036854775807 then ((strconv_FormatInt_33.f a0_1 10).bind fun t280 => (if (t279 ++ (⟨#[47]⟩ : ByteArray)).size + t280.size ≤ 9223372036854775807 then (some ((t279 ++ (⟨#[47]⟩ : ByteArray)) ++ t280)) else (none))) else (none)))) else (some (⟨#[110, 111, 110, 101]⟩ : ByteArray)))
theorem serinetteref01_Text.mono : ∀ a0 a1 k, LeO (serinetteref01_Text.f k a0 a1) (serinetteref01_Text.f (k + 1) a0 a1) := by
 intro a0 a1 k
 unfold serinetteref01_Text.f
 repeat' first
   | (with_reducible exact serinetteref01_Is.mono _ _ _)
   | (with_reducible exact LeO.refl _)
   | (with_reducible exact LeO.none _)
   | (with_reducible refine LeO.ite ?_ ?_)
   | (with_reducible refine LeO.bind ?_ (fun _ => ?_))
   | exact serinetteref01_Is.mono _ _ _
   | exact LeO.none _
   | refine LeO.ite ?_ ?_
   | refine LeO.bind ?_ (fun _ => ?_)
set_option maxHeartbeats 8000000 in
set_option maxRecDepth 100000 in
theorem serinetteref01_Text.calls (k : Nat) (a0_0 : Int) (a0_1 : Int) (r : ByteArray) (w : World) (htab : FI.Tb w) (h : serinetteref01_Text.f k a0_0 a0_1 = some r) :
  Calls Tryz.prog 54 #[.agg #[.int .i64 a0_0, .int .i64 a0_1]] w fun e w' => e = .returned (.string r) ∧ Below w.heap.size w w' := by
 have HTb := Aside0.mk htab; clear htab
 have hu23 := Tryz.underlying23; have HB := Aside0.mk (Below.refl w.heap.size w); have H : ((serinetteref01_Is.f k a0_0 a0_1).bind fun t278 => (if t278 = true then ((strconv_FormatInt_33.f a0_0 10).bind fun t279 => (if a0_1 = 1 then (some t279) else (if t279.size + 1 ≤ 9223372036854775807 then ((strconv_FormatInt_33.f a0_1 10).bind fun t280 => (if (t279 ++ (⟨#[47]⟩ : ByteArray)).size + t280.size ≤ 9223372036854775807 then (some ((t279 ++ (⟨#[47]⟩ : ByteArray)) ++ t280)) else (none))) else (none)))) else (some (⟨#[110, 111, 110, 101]⟩ : ByteArray)))) = some r := h; clear h; replace H := Option.bind_eq_some_iff.mp H; obtain ⟨t278, A20, H⟩ := H; (try dsimp only at H); have A2 := Aside0.mk A20; clear A20; by_cases c3 : t278 = true
 ·
  subst c3; rw [if_pos rfl] at H; replace H := Option.bind_eq_some_iff.mp H; obtain ⟨t279, A40, H⟩ := H; (try dsimp only at H); have A4 := Aside0.mk A40; clear A40; by_cases c5 : a0_1 = 1
  · rw [if_pos c5] at H; have c5b0 : (a0_1 == 1) = true := beq_iff_eq.mpr c5; have c5b1 : (a0_1 != 1) = false := bne_eq_false_iff_eq.mpr c5; clear c5; obtain rfl := Option.some.inj H; go_enter Tryz.func54, Tryz.ntmps54; go_wp2_with (first | ((with_reducible refine gate_dst (N := 1) rfl ?_); refine bx_ 1 #[.int .i64 a0_0, .int .i64 a0_1] 23 ?_; intro gb277 hg w6 BK277 hb; have GE277 := hz_ hg HB; replace HB := hs HB hb; clear hb hg; obtain ⟨hcz7_0, hcz7_1⟩ := bc2 BK277.out; obtain ⟨hfz7_0, hfz7_1⟩ := bf2 BK277.out) | ((with_reducible refine gate_callee (f := 28) rfl ?_); refine goesL_ (some 5) rfl rfl Tryz.func28 (by kernel_rfl) rfl #[.agg #[.int .i64 a0_0, .int .i64 a0_1]] rfl (by (try simp only [mp]); first | done | rfl | (simp only [ld]; rfl)) ?_; (with_reducible refine (serinetteref01_Is.calls k a0_0 a0_1 true _ A2.out).mono ?_); rintro e w8 ⟨rfl, hb⟩; refine ⟨_, rfl, ?_⟩; replace BK277 := kb BK277 hb; replace HB := hb_ w hb; obtain ⟨hcz9_0, hcz9_1⟩ := bc2 BK277.out; obtain ⟨hfz9_0, hfz9_1⟩ := bf2 BK277.out) | ((with_reducible refine gate_callee (f := 33) rfl ?_); refine goesL_ (some 9) rfl rfl Tryz.func33 (by kernel_rfl) rfl #[.int .i64 a0_0, .int .i64 10] rfl (by (try simp only [mp]); first | done | rfl | (simp only [ld]; rfl)) ?_; (with_reducible refine (strconv_FormatInt_33.calls a0_0 10 t279 _ (by first | exact FI.tb2 HTb HB HBW | exact FI.tb1 HTb HB | exact FI.tb3 HTb HB HBW | exact FI.tb1 HTb ab_) A4.out).mono ?_); rintro e w10 ⟨rfl, hb⟩; refine ⟨_, rfl, ?_⟩; replace BK277 := kb BK277 hb; replace HB := hb_ w hb; obtain ⟨hcz11_0, hcz11_1⟩ := bc2 BK277.out; obtain ⟨hfz11_0, hfz11_1⟩ := bf2 BK277.out)); go_ret; exact en_
  ·
   rw [if_neg c5] at H; have c5b0 : (a0_1 == 1) = false := beq_eq_false_iff_ne.mpr c5; have c5b1 : (a0_1 != 1) = true := bne_iff_ne.mpr c5; by_cases c12 : t279.size + 1 ≤ 9223372036854775807
   ·
    rw [if_pos c12] at H; have c12b0 := eq_true c12; have c12b1 : decide (t279.size + 1 ≤ 9223372036854775807) = true := decide_eq_true c12; (try have c12b2 : (9223372036854775807 < t279.size + 1) = False := eq_false (Nat.not_lt.2 c12)); replace H := Option.bind_eq_some_iff.mp H; obtain ⟨t280, A130, H⟩ := H; (try dsimp only at H); have A13 := Aside0.mk A130; clear A130; by_cases c14 : (t279 ++ (⟨#[47]⟩ : ByteArray)).size + t280.size ≤ 9223372036854775807
    · rw [if_pos c14] at H; have c14b0 := eq_true c14; have c14s : (9223372036854775807 < t279.size + 1 + t280.size) = False := eq_false (by have h_ := c14; simp only [ByteArray.size_append] at h_; have e0 : (⟨#[47]⟩ : ByteArray).size = 1 := rfl; omega); have c14b1 : decide ((t279 ++ (⟨#[47]⟩ : ByteArray)).size + t280.size ≤ 9223372036854775807) = true := decide_eq_true c14; (try have c14b2 : (9223372036854775807 < (t279 ++ (⟨#[47]⟩ : ByteArray)).size + t280.size) = False := eq_false (Nat.not_lt.2 c14)); obtain rfl := Option.some.inj H; go_enter Tryz.func54, Tryz.ntmps54; go_wp2_with (first | ((with_reducible refine gate_dst (N := 1) rfl ?_); refine bx_ 1 #[.int .i64 a0_0, .int .i64 a0_1] 23 ?_; intro gb277 hg w15 BK277 hb; have GE277 := hz_ hg HB; replace HB := hs HB hb; clear hb hg; obtain ⟨hcz16_0, hcz16_1⟩ := bc2 BK277.out; obtain ⟨hfz16_0, hfz16_1⟩ := bf2 BK277.out) | ((with_reducible refine gate_callee (f := 28) rfl ?_); refine goesL_ (some 5) rfl rfl Tryz.func28 (by kernel_rfl) rfl #[.agg #[.int .i64 a0_0, .int .i64 a0_1]] rfl (by (try simp only [mp]); first | done | rfl | (simp only [ld]; rfl)) ?_; (with_reducible refine (serinetteref01_Is.calls k a0_0 a0_1 true _ A2.out).mono ?_); rintro e w17 ⟨rfl, hb⟩; refine ⟨_, rfl, ?_⟩; replace BK277 := kb BK277 hb; replace HB := hb_ w hb; obtain ⟨hcz18_0, hcz18_1⟩ := bc2 BK277.out; obtain ⟨hfz18_0, hfz18_1⟩ := bf2 BK277.out) | ((with_reducible refine gate_callee (f := 33) rfl ?_); refine goesL_ (some 9) rfl rfl Tryz.func33 (by kernel_rfl) rfl #[.int .i64 a0_0, .int .i64 10] rfl (by (try simp only [mp]); first | done | rfl | (simp only [ld]; rfl)) ?_; (with_reducible refine (strconv_FormatInt_33.calls a0_0 10 t279 _ (by first | exact FI.tb2 HTb HB HBW | exact FI.tb1 HTb HB | exact FI.tb3 HTb HB HBW | exact FI.tb1 HTb ab_) A4.out).mono ?_); rintro e w19 ⟨rfl, hb⟩; refine ⟨_, rfl, ?_⟩; replace BK277 := kb BK277 hb; replace HB := hb_ w hb; obtain ⟨hcz20_0, hcz20_1⟩ := bc2 BK277.out; obtain ⟨hfz20_0, hfz20_1⟩ := bf2 BK277.out) | ((with_reducible refine gate_callee (f := 33) rfl ?_); refine goesL_ (some 17) rfl rfl Tryz.func33 (by kernel_rfl) rfl #[.int .i64 a0_1, .int .i64 10] rfl (by (try simp only [mp]); first | done | rfl | (simp only [ld]; rfl)) ?_; (with_reducible refine (strconv_FormatInt_33.calls a0_1 10 t280 _ (by first | exact FI.tb2 HTb HB HBW | exact FI.tb1 HTb HB | exact FI.tb3 HTb HB HBW) A13.out).mono ?_); rintro e w21 ⟨rfl, hb⟩; refine ⟨_, rfl, ?_⟩; replace BK277 := kb BK277 hb; replace HB := hb_ w hb; )); go_ret; exact en_
    · rw [if_neg c14] at H; exact absurd H (by simp)
   · rw [if_neg c12] at H; exact absurd H (by simp)
 · replace c3 := Bool.eq_false_iff.mpr c3; subst c3; rw [if_neg (show ¬ (false = true) by decide)] at H; obtain rfl := Option.some.inj H; go_enter Tryz.func54, Tryz.ntmps54; go_wp2_with (first | ((with_reducible refine gate_dst (N := 1) rfl ?_); refine bx_ 1 #[.int .i64 a0_0, .int .i64 a0_1] 23 ?_; intro gb277 hg w22 BK277 hb; have GE277 := hz_ hg HB; replace HB := hs HB hb; clear hb hg; obtain ⟨hcz23_0, hcz23_1⟩ := bc2 BK277.out; obtain ⟨hfz23_0, hfz23_1⟩ := bf2 BK277.out) | ((with_reducible refine gate_callee (f := 28) rfl ?_); refine goesL_ (some 5) rfl rfl Tryz.func28 (by kernel_rfl) rfl #[.agg #[.int .i64 a0_0, .int .i64 a0_1]] rfl (by (try simp only [mp]); first | done | rfl | (simp only [ld]; rfl)) ?_; (with_reducible refine (serinetteref01_Is.calls k a0_0 a0_1 false _ A2.out).mono ?_); rintro e w24 ⟨rfl, hb⟩; refine ⟨_, rfl, ?_⟩; replace BK277 := kb BK277 hb; replace HB := hb_ w hb; )); go_ret; exact en_
def serinetteref03_star.f (k : Nat) (a0_0 : Int) (a0_1 : Int) : Option (ByteArray) := (serinetteref01_Is.f k a0_0 a0_1).bind fun t282 => (if t282 = true then ((serinetteref01_Text.f k a0_0 a0_1).bind fun t283 => (some t283)) else (some (⟨#[42]⟩ : ByteArray)))
theorem serinetteref03_star.mono : ∀ a0 a1 k, LeO (serinetteref03_star.f k a0 a1) (serinetteref03_star.f (k + 1) a0 a1) := by
 intro a0 a1 k
 unfold serinetteref03_star.f
 repeat' first
   | (with_reducible exact serinetteref01_Is.mono _ _ _)
   | (with_reducible exact serinetteref01_Text.mono _ _ _)
   | (with_reducible exact LeO.refl _)
   | (with_reducible exact LeO.none _)
   | (with_reducible refine LeO.ite ?_ ?_)
   | (with_reducible refine LeO.bind ?_ (fun _ => ?_))
   | exact serinetteref01_Is.mono _ _ _
   | exact serinetteref01_Text.mono _ _ _
   | exact LeO.none _
   | refine LeO.ite ?_ ?_
   | refine LeO.bind ?_ (fun _ => ?_)
set_option maxHeartbeats 8000000 in
set_option maxRecDepth 100000 in
theorem serinetteref03_star.calls (k : Nat) (a0_0 : Int) (a0_1 : Int) (r : ByteArray) (w : World) (htab : FI.Tb w) (h : serinetteref03_star.f k a0_0 a0_1 = some r) :
  Calls Tryz.prog 34 #[.agg #[.int .i64 a0_0, .int .i64 a0_1]] w fun e w' => e = .returned (.string r) ∧ Below w.heap.size w w' := by
 have HTb := Aside0.mk htab; clear htab
 have hu23 := Tryz.underlying23; have HB := Aside0.mk (Below.refl w.heap.size w); have H : ((serinetteref01_Is.f k a0_0 a0_1).bind fun t282 => (if t282 = true then ((serinetteref01_Text.f k a0_0 a0_1).bind fun t283 => (some t283)) else (some (⟨#[42]⟩ : ByteArray)))) = some r := h; clear h; replace H := Option.bind_eq_some_iff.mp H; obtain ⟨t282, A20, H⟩ := H; (try dsimp only at H); have A2 := Aside0.mk A20; clear A20; by_cases c3 : t282 = true
 · subst c3; rw [if_pos rfl] at H; replace H := Option.bind_eq_some_iff.mp H; obtain ⟨t283, A40, H⟩ := H; (try dsimp only at H); have A4 := Aside0.mk A40; clear A40; obtain rfl := Option.some.inj H; go_enter Tryz.func34, Tryz.ntmps34; go_wp2_with (first | ((with_reducible refine gate_dst (N := 1) rfl ?_); refine bx_ 1 #[.int .i64 a0_0, .int .i64 a0_1] 23 ?_; intro gb281 hg w5 BK281 hb; have GE281 := hz_ hg HB; replace HB := hs HB hb; clear hb hg; obtain ⟨hcz6_0, hcz6_1⟩ := bc2 BK281.out; obtain ⟨hfz6_0, hfz6_1⟩ := bf2 BK281.out) | ((with_reducible refine gate_callee (f := 28) rfl ?_); refine goesL_ (some 4) rfl rfl Tryz.func28 (by kernel_rfl) rfl #[.agg #[.int .i64 a0_0, .int .i64 a0_1]] rfl (by (try simp only [mp]); first | done | rfl | (simp only [ld]; rfl)) ?_; (with_reducible refine (serinetteref01_Is.calls k a0_0 a0_1 true _ A2.out).mono ?_); rintro e w7 ⟨rfl, hb⟩; refine ⟨_, rfl, ?_⟩; replace BK281 := kb BK281 hb; replace HB := hb_ w hb; obtain ⟨hcz8_0, hcz8_1⟩ := bc2 BK281.out; obtain ⟨hfz8_0, hfz8_1⟩ := bf2 BK281.out) | ((with_reducible refine gate_callee (f := 54) rfl ?_); refine goesL_ (some 7) rfl rfl Tryz.func54 (by kernel_rfl) rfl #[.agg #[.int .i64 a0_0, .int .i64 a0_1]] rfl (by (try simp only [mp]); first | done | rfl | (simp only [ld]; rfl)) ?_; (with_reducible refine (serinetteref01_Text.calls k a0_0 a0_1 t283 _ (by first | exact FI.tb2 HTb HB HBW | exact FI.tb1 HTb HB | exact FI.tb3 HTb HB HBW | exact FI.tb1 HTb ab_) A4.out).mono ?_); rintro e w9 ⟨rfl, hb⟩; refine ⟨_, rfl, ?_⟩; replace BK281 := kb BK281 hb; replace HB := hb_ w hb; )); go_ret; exact en_
 · replace c3 := Bool.eq_false_iff.mpr c3; subst c3; rw [if_neg (show ¬ (false = true) by decide)] at H; obtain rfl := Option.some.inj H; go_enter Tryz.func34, Tryz.ntmps34; go_wp2_with (first | ((with_reducible refine gate_dst (N := 1) rfl ?_); refine bx_ 1 #[.int .i64 a0_0, .int .i64 a0_1] 23 ?_; intro gb281 hg w10 BK281 hb; have GE281 := hz_ hg HB; replace HB := hs HB hb; clear hb hg; obtain ⟨hcz11_0, hcz11_1⟩ := bc2 BK281.out; obtain ⟨hfz11_0, hfz11_1⟩ := bf2 BK281.out) | ((with_reducible refine gate_callee (f := 28) rfl ?_); refine goesL_ (some 4) rfl rfl Tryz.func28 (by kernel_rfl) rfl #[.agg #[.int .i64 a0_0, .int .i64 a0_1]] rfl (by (try simp only [mp]); first | done | rfl | (simp only [ld]; rfl)) ?_; (with_reducible refine (serinetteref01_Is.calls k a0_0 a0_1 false _ A2.out).mono ?_); rintro e w12 ⟨rfl, hb⟩; refine ⟨_, rfl, ?_⟩; replace BK281 := kb BK281 hb; replace HB := hb_ w hb; )); go_ret; exact en_
def serinetteref03_Text.f (k : Nat) (a0_0 : Int) (a0_1 : Int) (a0_2 : Int) (a0_3 : Int) (a0_4 : Int) (a0_5 : Bool) (a0_6 : Bool) : Option (ByteArray) := (serinetteref03_Clean.f k a0_0 a0_1 a0_2 a0_3 a0_4 a0_5 a0_6).bind fun bt285 => (if bt285.2.2.2.2.2.2 = true then (if bt285.2.2.2.2.2.1 = true then (if 2 + 5 ≤ 9223372036854775807 then (some ((⟨#[91, 93]⟩ : ByteArray) ++ (⟨#[32, 110, 111, 110, 101]⟩ : ByteArray))) else (none)) else (some (⟨#[91, 93]⟩ : ByteArray))) else ((serinetteref03_star.f k bt285.1 bt285.2.1).bind fun t292 => (if 1 + t292.size ≤ 9223372036854775807 then (if ((⟨#[91]⟩ : ByteArray) ++ t292).size + 1 ≤ 9223372036854775807 then ((serinetteref03_star.f k bt285.2.2.1 bt285.2.2.2.1).bind fun t293 => (if (((⟨#[91]⟩ : ByteArray) ++ t292) ++ (⟨#[44]⟩ : ByteArray)).size + t293.size ≤ 9223372036854775807 then (if ((((⟨#[91]⟩ : ByteArray) ++ t292) ++ (⟨#[44]⟩ : ByteArray)) ++ t293).size + 2 ≤ 9223372036854775807 then ((strconv_FormatInt_33.f bt285.2.2.2.2.1 10).bind fun t294 => (if (((((⟨#[91]⟩ : ByteArray) ++ t292) ++ (⟨#[44]⟩ : ByteArray)) ++ t293) ++ (⟨#[93, 47]⟩ : ByteArray)).size + t294.size ≤ 9223372036854775807 then (if bt285.2.2.2.2.2.1 = true then (if ((((((⟨#[91]⟩ : ByteArray) ++ t292) ++ (⟨#[44]⟩ : ByteArray)) ++ t293) ++ (⟨#[93, 47]⟩ : ByteArray)) ++ t294).size + 5 ≤ 9223372036854775807 then (some (((((((⟨#[91]⟩ : ByteArray) ++ t292) ++ (⟨#[44]⟩ : ByteArray)) ++ t293) ++ (⟨#[93, 47]⟩ : ByteArray)) ++ t294) ++ (⟨#[32, 110, 111, 110, 101]⟩ : ByteArray))) else (none)) else (some ((((((⟨#[91]⟩ : ByteArray) ++ t292) ++ (⟨#[44]⟩ : ByteArray)) ++ t293) ++ (⟨#[93, 47]⟩ : ByteArray)) ++ t294))) else (none))) else (none)) else (none))) else (none)) else (none))))
theorem serinetteref03_Text.mono : ∀ a0 a1 a2 a3 a4 a5 a6 k, LeO (serinetteref03_Text.f k a0 a1 a2 a3 a4 a5 a6) (serinetteref03_Text.f (k + 1) a0 a1 a2 a3 a4 a5 a6) := by
 intro a0 a1 a2 a3 a4 a5 a6 k
 unfold serinetteref03_Text.f
 repeat' first
   | (with_reducible exact serinetteref03_Clean.mono _ _ _ _ _ _ _ _)
   | (with_reducible exact serinetteref03_star.mono _ _ _)
   | (with_reducible exact LeO.refl _)
   | (with_reducible exact LeO.none _)
   | (with_reducible refine LeO.ite ?_ ?_)
   | (with_reducible refine LeO.bind ?_ (fun _ => ?_))
   | exact serinetteref03_Clean.mono _ _ _ _ _ _ _ _
   | exact serinetteref03_star.mono _ _ _
   | exact LeO.none _
   | refine LeO.ite ?_ ?_
   | refine LeO.bind ?_ (fun _ => ?_)
def serinetteref03_Text.T4 : Bool × List (List Nat × List Nat) := (true, [([], []), ([0], [0]), ([1], [1]), ([2], [2]), ([3], [3]), ([], []), ([5], [5]), ([6, 2], [6]), ([4, 7], [4, 7]), ([8], [8]), ([], []), ([10], [10]), ([11, 7], [11]), ([9, 12], [9, 12]), ([13, 12, 0, 1, 2, 3, 4, 5, 6, 7, 8, 9, 10, 11, 12, 13], [13])])
def serinetteref03_Text.B4 : List Nat := [0, 1, 3, 7, 15, 0, 32, 103, 255, 511, 0, 1024, 3303, 8191, 16383]
theorem serinetteref03_Text.tab4 : rtab .any (opsOf Tryz.f11 4) = serinetteref03_Text.T4 := by kernel_rfl
theorem serinetteref03_Text.bits4 : waitsOk serinetteref03_Text.T4.2 serinetteref03_Text.B4 = true := by kernel_rfl
set_option maxHeartbeats 8000000 in
set_option maxRecDepth 100000 in
theorem serinetteref03_Text.calls (k : Nat) (a0_0 : Int) (a0_1 : Int) (a0_2 : Int) (a0_3 : Int) (a0_4 : Int) (a0_5 : Bool) (a0_6 : Bool) (r : ByteArray) (w : World) (htab : FI.Tb w) (h : serinetteref03_Text.f k a0_0 a0_1 a0_2 a0_3 a0_4 a0_5 a0_6 = some r) :
  Calls Tryz.prog 11 #[.agg #[.int .i64 a0_0, .int .i64 a0_1, .int .i64 a0_2, .int .i64 a0_3, .int .i64 a0_4, .bool a0_5, .bool a0_6]] w fun e w' => e = .returned (.string r) ∧ Below w.heap.size w w' := by
 have HTb := Aside0.mk htab; clear htab
 have hu25 := Tryz.underlying25; have hu23 := Tryz.underlying23; have HB := Aside0.mk (Below.refl w.heap.size w); have H : ((serinetteref03_Clean.f k a0_0 a0_1 a0_2 a0_3 a0_4 a0_5 a0_6).bind fun bt285 => (if bt285.2.2.2.2.2.2 = true then (if bt285.2.2.2.2.2.1 = true then (if 2 + 5 ≤ 9223372036854775807 then (some ((⟨#[91, 93]⟩ : ByteArray) ++ (⟨#[32, 110, 111, 110, 101]⟩ : ByteArray))) else (none)) else (some (⟨#[91, 93]⟩ : ByteArray))) else ((serinetteref03_star.f k bt285.1 bt285.2.1).bind fun t292 => (if 1 + t292.size ≤ 9223372036854775807 then (if ((⟨#[91]⟩ : ByteArray) ++ t292).size + 1 ≤ 9223372036854775807 then ((serinetteref03_star.f k bt285.2.2.1 bt285.2.2.2.1).bind fun t293 => (if (((⟨#[91]⟩ : ByteArray) ++ t292) ++ (⟨#[44]⟩ : ByteArray)).size + t293.size ≤ 9223372036854775807 then (if ((((⟨#[91]⟩ : ByteArray) ++ t292) ++ (⟨#[44]⟩ : ByteArray)) ++ t293).size + 2 ≤ 9223372036854775807 then ((strconv_FormatInt_33.f bt285.2.2.2.2.1 10).bind fun t294 => (if (((((⟨#[91]⟩ : ByteArray) ++ t292) ++ (⟨#[44]⟩ : ByteArray)) ++ t293) ++ (⟨#[93, 47]⟩ : ByteArray)).size + t294.size ≤ 9223372036854775807 then (if bt285.2.2.2.2.2.1 = true then (if ((((((⟨#[91]⟩ : ByteArray) ++ t292) ++ (⟨#[44]⟩ : ByteArray)) ++ t293) ++ (⟨#[93, 47]⟩ : ByteArray)) ++ t294).size + 5 ≤ 9223372036854775807 then (some (((((((⟨#[91]⟩ : ByteArray) ++ t292) ++ (⟨#[44]⟩ : ByteArray)) ++ t293) ++ (⟨#[93, 47]⟩ : ByteArray)) ++ t294) ++ (⟨#[32, 110, 111, 110, 101]⟩ : ByteArray))) else (none)) else (some ((((((⟨#[91]⟩ : ByteArray) ++ t292) ++ (⟨#[44]⟩ : ByteArray)) ++ t293) ++ (⟨#[93, 47]⟩ : ByteArray)) ++ t294))) else (none))) else (none)) else (none))) else (none)) else (none))))) = some r := h; clear h; replace H := Option.bind_eq_some_iff.mp H; obtain ⟨⟨t285, t286, t287, t288, t289, t290, t291⟩, A20, H⟩ := H; (try dsimp only at H); have A2 := Aside0.mk A20; clear A20; by_cases c3 : t291 = true
 ·
  subst c3; rw [if_pos rfl] at H; by_cases c4 : t290 = true
  ·
   subst c4; rw [if_pos rfl] at H; by_cases c5 : 2 + 5 ≤ 9223372036854775807
   · rw [if_pos c5] at H; have c5b0 := eq_true c5; have c5b1 : decide (2 + 5 ≤ 9223372036854775807) = true := decide_eq_true c5; (try have c5b2 : (9223372036854775807 < 2 + 5) = False := eq_false (Nat.not_lt.2 c5)); obtain rfl := Option.some.inj H; go_enter Tryz.func11, Tryz.ntmps11; go_wp2_with (first | ((with_reducible refine gate_dst (N := 1) rfl ?_); refine bx_ 1 #[.int .i64 a0_0, .int .i64 a0_1, .int .i64 a0_2, .int .i64 a0_3, .int .i64 a0_4, .bool a0_5, .bool a0_6] 25 ?_; intro gb284 hg w6 BK284 hb; have GE284 := hz_ hg HB; replace HB := hs HB hb; clear hb hg; obtain ⟨hcz7_0, hcz7_1, hcz7_2, hcz7_3, hcz7_4, hcz7_5, hcz7_6⟩ := bc7 BK284.out; obtain ⟨hfz7_0, hfz7_1, hfz7_2, hfz7_3, hfz7_4, hfz7_5, hfz7_6⟩ := bf7 BK284.out) | ((with_reducible refine gate_callee (f := 31) rfl ?_); refine goesL_ (some 5) rfl rfl Tryz.func31 (by kernel_rfl) rfl #[.agg #[.int .i64 a0_0, .int .i64 a0_1, .int .i64 a0_2, .int .i64 a0_3, .int .i64 a0_4, .bool a0_5, .bool a0_6]] rfl (by (try simp only [mp]); first | done | rfl | (simp only [ld]; rfl)) ?_; (with_reducible refine (serinetteref03_Clean.calls k a0_0 a0_1 a0_2 a0_3 a0_4 a0_5 a0_6 t285 t286 t287 t288 t289 true true _ A2.out).mono ?_); rintro e w8 ⟨rfl, hb⟩; refine ⟨_, rfl, ?_⟩; replace BK284 := kb BK284 hb; replace HB := hb_ w hb; obtain ⟨hcz9_0, hcz9_1, hcz9_2, hcz9_3, hcz9_4, hcz9_5, hcz9_6⟩ := bc7 BK284.out; obtain ⟨hfz9_0, hfz9_1, hfz9_2, hfz9_3, hfz9_4, hfz9_5, hfz9_6⟩ := bf7 BK284.out)); go_ret; exact en_
   · rw [if_neg c5] at H; exact absurd H (by simp)
  · replace c4 := Bool.eq_false_iff.mpr c4; subst c4; rw [if_neg (show ¬ (false = true) by decide)] at H; obtain rfl := Option.some.inj H; go_enter Tryz.func11, Tryz.ntmps11; go_wp2_with (first | ((with_reducible refine gate_dst (N := 1) rfl ?_); refine bx_ 1 #[.int .i64 a0_0, .int .i64 a0_1, .int .i64 a0_2, .int .i64 a0_3, .int .i64 a0_4, .bool a0_5, .bool a0_6] 25 ?_; intro gb284 hg w10 BK284 hb; have GE284 := hz_ hg HB; replace HB := hs HB hb; clear hb hg; obtain ⟨hcz11_0, hcz11_1, hcz11_2, hcz11_3, hcz11_4, hcz11_5, hcz11_6⟩ := bc7 BK284.out; obtain ⟨hfz11_0, hfz11_1, hfz11_2, hfz11_3, hfz11_4, hfz11_5, hfz11_6⟩ := bf7 BK284.out) | ((with_reducible refine gate_callee (f := 31) rfl ?_); refine goesL_ (some 5) rfl rfl Tryz.func31 (by kernel_rfl) rfl #[.agg #[.int .i64 a0_0, .int .i64 a0_1, .int .i64 a0_2, .int .i64 a0_3, .int .i64 a0_4, .bool a0_5, .bool a0_6]] rfl (by (try simp only [mp]); first | done | rfl | (simp only [ld]; rfl)) ?_; (with_reducible refine (serinetteref03_Clean.calls k a0_0 a0_1 a0_2 a0_3 a0_4 a0_5 a0_6 t285 t286 t287 t288 t289 false true _ A2.out).mono ?_); rintro e w12 ⟨rfl, hb⟩; refine ⟨_, rfl, ?_⟩; replace BK284 := kb BK284 hb; replace HB := hb_ w hb; obtain ⟨hcz13_0, hcz13_1, hcz13_2, hcz13_3, hcz13_4, hcz13_5, hcz13_6⟩ := bc7 BK284.out; obtain ⟨hfz13_0, hfz13_1, hfz13_2, hfz13_3, hfz13_4, hfz13_5, hfz13_6⟩ := bf7 BK284.out)); go_ret; exact en_
 ·
  replace c3 := Bool.eq_false_iff.mpr c3; subst c3; rw [if_neg (show ¬ (false = true) by decide)] at H; replace H := Option.bind_eq_some_iff.mp H; obtain ⟨t292, A140, H⟩ := H; (try dsimp only at H); have A14 := Aside0.mk A140; clear A140; by_cases c15 : 1 + t292.size ≤ 9223372036854775807
  ·
   rw [if_pos c15] at H; have c15b0 := eq_true c15; have c15b1 : decide (1 + t292.size ≤ 9223372036854775807) = true := decide_eq_true c15; (try have c15b2 : (9223372036854775807 < 1 + t292.size) = False := eq_false (Nat.not_lt.2 c15)); by_cases c16 : ((⟨#[91]⟩ : ByteArray) ++ t292).size + 1 ≤ 9223372036854775807
   ·
    rw [if_pos c16] at H; have c16b0 := eq_true c16; have c16s : (9223372036854775807 < 1 + t292.size + 1) = False := eq_false (by have h_ := c16; simp only [ByteArray.size_append] at h_; have e0 : (⟨#[91]⟩ : ByteArray).size = 1 := rfl; omega); have c16b1 : decide (((⟨#[91]⟩ : ByteArray) ++ t292).size + 1 ≤ 9223372036854775807) = true := decide_eq_true c16; (try have c16b2 : (9223372036854775807 < ((⟨#[91]⟩ : ByteArray) ++ t292).size + 1) = False := eq_false (Nat.not_lt.2 c16)); replace H := Option.bind_eq_some_iff.mp H; obtain ⟨t293, A170, H⟩ := H; (try dsimp only at H); have A17 := Aside0.mk A170; clear A170; by_cases c18 : (((⟨#[91]⟩ : ByteArray) ++ t292) ++ (⟨#[44]⟩ : ByteArray)).size + t293.size ≤ 9223372036854775807
    ·
     rw [if_pos c18] at H; have c18b0 := eq_true c18; have c18s : (9223372036854775807 < 1 + t292.size + 1 + t293.size) = False := eq_false (by have h_ := c18; simp only [ByteArray.size_append] at h_; have e0 : (⟨#[44]⟩ : ByteArray).size = 1 := rfl; have e1 : (⟨#[91]⟩ : ByteArray).size = 1 := rfl; omega); have c18b1 : decide ((((⟨#[91]⟩ : ByteArray) ++ t292) ++ (⟨#[44]⟩ : ByteArray)).size + t293.size ≤ 9223372036854775807) = true := decide_eq_true c18; (try have c18b2 : (9223372036854775807 < (((⟨#[91]⟩ : ByteArray) ++ t292) ++ (⟨#[44]⟩ : ByteArray)).size + t293.size) = False := eq_false (Nat.not_lt.2 c18)); by_cases c19 : ((((⟨#[91]⟩ : ByteArray) ++ t292) ++ (⟨#[44]⟩ : ByteArray)) ++ t293).size + 2 ≤ 9223372036854775807
     ·
      rw [if_pos c19] at H; have c19b0 := eq_true c19; have c19s : (9223372036854775807 < 1 + t292.size + 1 + t293.size + 2) = False := eq_false (by have h_ := c19; simp only [ByteArray.size_append] at h_; have e0 : (⟨#[44]⟩ : ByteArray).size = 1 := rfl; have e1 : (⟨#[91]⟩ : ByteArray).size = 1 := rfl; omega); have c19b1 : decide (((((⟨#[91]⟩ : ByteArray) ++ t292) ++ (⟨#[44]⟩ : ByteArray)) ++ t293).size + 2 ≤ 9223372036854775807) = true := decide_eq_true c19; (try have c19b2 : (9223372036854775807 < ((((⟨#[91]⟩ : ByteArray) ++ t292) ++ (⟨#[44]⟩ : ByteArray)) ++ t293).size + 2) = False := eq_false (Nat.not_lt.2 c19)); replace H := Option.bind_eq_some_iff.mp H; obtain ⟨t294, A200, H⟩ := H; (try dsimp only at H); have A20 := Aside0.mk A200; clear A200; by_cases c21 : (((((⟨#[91]⟩ : ByteArray) ++ t292) ++ (⟨#[44]⟩ : ByteArray)) ++ t293) ++ (⟨#[93, 47]⟩ : ByteArray)).size + t294.size ≤ 9223372036854775807
      ·
       rw [if_pos c21] at H; have c21b0 := eq_true c21; have c21s : (9223372036854775807 < 1 + t292.size + 1 + t293.size + 2 + t294.size) = False := eq_false (by have h_ := c21; simp only [ByteArray.size_append] at h_; have e0 : (⟨#[44]⟩ : ByteArray).size = 1 := rfl; have e1 : (⟨#[91]⟩ : ByteArray).size = 1 := rfl; have e2 : (⟨#[93, 47]⟩ : ByteArray).size = 2 := rfl; omega); have c21b1 : decide ((((((⟨#[91]⟩ : ByteArray) ++ t292) ++ (⟨#[44]⟩ : ByteArray)) ++ t293) ++ (⟨#[93, 47]⟩ : ByteArray)).size + t294.size ≤ 9223372036854775807) = true := decide_eq_true c21; (try have c21b2 : (9223372036854775807 < (((((⟨#[91]⟩ : ByteArray) ++ t292) ++ (⟨#[44]⟩ : ByteArray)) ++ t293) ++ (⟨#[93, 47]⟩ : ByteArray)).size + t294.size) = False := eq_false (Nat.not_lt.2 c21)); by_cases c22 : t290 = true
       ·
        subst c22; rw [if_pos rfl] at H; by_cases c23 : ((((((⟨#[91]⟩ : ByteArray) ++ t292) ++ (⟨#[44]⟩ : ByteArray)) ++ t293) ++ (⟨#[93, 47]⟩ : ByteArray)) ++ t294).size + 5 ≤ 9223372036854775807
        ·
         rw [if_pos c23] at H; have c23b0 := eq_true c23; have c23s : (9223372036854775807 < 1 + t292.size + 1 + t293.size + 2 + t294.size + 5) = False := eq_false (by have h_ := c23; simp only [ByteArray.size_append] at h_; have e0 : (⟨#[44]⟩ : ByteArray).size = 1 := rfl; have e1 : (⟨#[91]⟩ : ByteArray).size = 1 := rfl; have e2 : (⟨#[93, 47]⟩ : ByteArray).size = 2 := rfl; omega); have c23b1 : decide (((((((⟨#[91]⟩ : ByteArray) ++ t292) ++ (⟨#[44]⟩ : ByteArray)) ++ t293) ++ (⟨#[93, 47]⟩ : ByteArray)) ++ t294).size + 5 ≤ 9223372036854775807) = true := decide_eq_true c23; (try have c23b2 : (9223372036854775807 < ((((((⟨#[91]⟩ : ByteArray) ++ t292) ++ (⟨#[44]⟩ : ByteArray)) ++ t293) ++ (⟨#[93, 47]⟩ : ByteArray)) ++ t294).size + 5) = False := eq_false (Nat.not_lt.2 c23)); obtain rfl := Option.some.inj H; go_enter Tryz.func11, Tryz.ntmps11; (try go_wp2_with (first | ((with_reducible refine gate_dst (N := 1) rfl ?_); refine bx_ 1 #[.int .i64 a0_0, .int .i64 a0_1, .int .i64 a0_2, .int .i64 a0_3, .int .i64 a0_4, .bool a0_5, .bool a0_6] 25 ?_; intro gb284 hg w24 BK284 hb; have GE284 := hz_ hg HB; replace HB := hs HB hb; clear hb hg; obtain ⟨hcz25_0, hcz25_1, hcz25_2, hcz25_3, hcz25_4, hcz25_5, hcz25_6⟩ := bc7 BK284.out; obtain ⟨hfz25_0, hfz25_1, hfz25_2, hfz25_3, hfz25_4, hfz25_5, hfz25_6⟩ := bf7 BK284.out) | ((with_reducible refine gate_callee (f := 31) rfl ?_); refine goesL_ (some 5) rfl rfl Tryz.func31 (by kernel_rfl) rfl #[.agg #[.int .i64 a0_0, .int .i64 a0_1, .int .i64 a0_2, .int .i64 a0_3, .int .i64 a0_4, .bool a0_5, .bool a0_6]] rfl (by (try simp only [mp]); first | done | rfl | (simp only [ld]; rfl)) ?_; (with_reducible refine (serinetteref03_Clean.calls k a0_0 a0_1 a0_2 a0_3 a0_4 a0_5 a0_6 t285 t286 t287 t288 t289 true false _ A2.out).mono ?_); rintro e w26 ⟨rfl, hb⟩; refine ⟨_, rfl, ?_⟩; replace BK284 := kb BK284 hb; replace HB := hb_ w hb; obtain ⟨hcz27_0, hcz27_1, hcz27_2, hcz27_3, hcz27_4, hcz27_5, hcz27_6⟩ := bc7 BK284.out; obtain ⟨hfz27_0, hfz27_1, hfz27_2, hfz27_3, hfz27_4, hfz27_5, hfz27_6⟩ := bf7 BK284.out))); have n0_ : Aside0 ((((((((w26.setCell ⟨gb284, 0, none⟩ (.int .i64 t285)).setCell ⟨gb284, 1, none⟩ (.int .i64 t286)).setCell ⟨gb284, 2, none⟩ (.int .i64 t287)).setCell ⟨gb284, 3, none⟩ (.int .i64 t288)).setCell ⟨gb284, 4, none⟩ (.int .i64 t289)).setCell ⟨gb284, 5, none⟩ (.bool true)).setCell ⟨gb284, 6, none⟩ (.bool false)).heap[gb284]? = some (.cells #[.int .i64 t285, .int .i64 t286, .int .i64 t287, .int .i64 t288, .int .i64 t289, .bool true, .bool false] 25 (0, 0))) := ⟨by exact rq BK284.out (by rfl)⟩; have n1_ : Aside0 (Below w.heap.size w (((((((w26.setCell ⟨gb284, 0, none⟩ (.int .i64 t285)).setCell ⟨gb284, 1, none⟩ (.int .i64 t286)).setCell ⟨gb284, 2, none⟩ (.int .i64 t287)).setCell ⟨gb284, 3, none⟩ (.int .i64 t288)).setCell ⟨gb284, 4, none⟩ (.int .i64 t289)).setCell ⟨gb284, 5, none⟩ (.bool true)).setCell ⟨gb284, 6, none⟩ (.bool false))) := ab2_; (try clear BK284); (try clear HB); generalize (((((((w26.setCell ⟨gb284, 0, none⟩ (.int .i64 t285)).setCell ⟨gb284, 1, none⟩ (.int .i64 t286)).setCell ⟨gb284, 2, none⟩ (.int .i64 t287)).setCell ⟨gb284, 3, none⟩ (.int .i64 t288)).setCell ⟨gb284, 4, none⟩ (.int .i64 t289)).setCell ⟨gb284, 5, none⟩ (.bool true)).setCell ⟨gb284, 6, none⟩ (.bool false)) = w28 at n0_ n1_ ⊢; have BK284 := n0_; have HB := n1_; clear n0_ n1_; replace BK284 := kd BK284; replace HB := Aside0.mk (below_drew1 HB.out); refine start_ (n := 15) (S := fun w' => w'.cell? ⟨gb284, 0, none⟩ = some (.int .i64 t285) ∧ w'.cell? ⟨gb284, 1, none⟩ = some (.int .i64 t286) ∧ w'.cell? ⟨gb284, 2, none⟩ = some (.int .i64 t287) ∧ w'.cell? ⟨gb284, 3, none⟩ = some (.int .i64 t288) ∧ w'.cell? ⟨gb284, 4, none⟩ = some (.int .i64 t289) ∧ w'.cell? ⟨gb284, 5, none⟩ = some (.bool true) ∧ w'.cell? ⟨gb284, 6, none⟩ = some (.bool false)) (ds := []) (bA 15 0) (by kernel_rfl) rfl rfl ⟨(blk_cell BK284.out 0).trans rfl, (blk_cell BK284.out 1).trans rfl, (blk_cell BK284.out 2).trans rfl, (blk_cell BK284.out 3).trans rfl, (blk_cell BK284.out 4).trans rfl, (blk_cell BK284.out 5).trans rfl, (blk_cell BK284.out 6).trans rfl⟩ (fun hHeld => ?_); refine with_tabW serinetteref03_Text.tab4 serinetteref03_Text.bits4 (fun HT_ HW_ => ?_); generalize w28.drew = w29 at BK284 HB hHeld ⊢; have hH0 := hHeld; have HBW := hbw w29; refine pure_ (i := 0) (N := some 9) (v := ?_) (a' := ?_) (bA 15 1) rfl rfl (any_of HT_.out (by kernel_rfl)) (fun _ _ _ h => h) (Or.inl ⟨by rfl, ?_⟩) ?_ ?_; rotate_left
         · intro w'; go_simp; with_reducible rfl
         rotate_left
         · simp only [ap]; rfl
         refine pure_ (i := 5) (N := some 14) (v := ?_) (a' := ?_) (bA 15 33) rfl rfl (any_of HT_.out (by kernel_rfl)) (fun _ _ _ h => h) (Or.inl ⟨by rfl, ?_⟩) ?_ ?_; rotate_left
         · intro w'; go_simp; with_reducible rfl
         rotate_left
         · simp only [ap]; rfl
         refine pure_ (i := 10) (N := some 19) (v := ?_) (a' := ?_) (bA 15 1057) rfl rfl (any_of HT_.out (by kernel_rfl)) (fun _ _ _ h => h) (Or.inl ⟨by rfl, ?_⟩) ?_ ?_; rotate_left
         · intro w'; go_simp; with_reducible rfl
         rotate_left
         · simp only [ap]; rfl
         refine take_ (i := 1) (N := some 10) (v := ?_) (a' := ?_) (bA 15 1059) rfl rfl (take_ofW HT_.out HW_.out (by kernel_rfl)) (fun _ _ _ h => h) (Or.inl ⟨by rfl, ?_⟩) hHeld ?_ ?_; rotate_left
         · rintro w' ⟨s0, s1, s2, s3, s4, s5, s6⟩; go_simp; with_reducible rfl
         rotate_left
         · simp only [ap]; rfl
         refine take_ (i := 6) (N := some 15) (v := ?_) (a' := ?_) (bA 15 1123) rfl rfl (take_ofW HT_.out HW_.out (by kernel_rfl)) (fun _ _ _ h => h) (Or.inl ⟨by rfl, ?_⟩) hHeld ?_ ?_; rotate_left
         · rintro w' ⟨s0, s1, s2, s3, s4, s5, s6⟩; go_simp; with_reducible rfl
         rotate_left
         · simp only [ap]; rfl
         refine take_ (i := 11) (N := some 20) (v := ?_) (a' := ?_) (bA 15 3171) rfl rfl (take_ofW HT_.out HW_.out (by kernel_rfl)) (fun _ _ _ h => h) (Or.inl ⟨by rfl, ?_⟩) hHeld ?_ ?_; rotate_left
         · rintro w' ⟨s0, s1, s2, s3, s4, s5, s6⟩; go_simp; with_reducible rfl
         rotate_left
         · simp only [ap]; rfl
         refine one_ (i := 2) (N := some 11) (bA 15 3175) rfl rfl (one_of HT_.out (by kernel_rfl)) (by decide) (fun K hK => ?_); refine goes_ Tryz.func34 (by kernel_rfl) rfl #[.agg #[.int .i64 t285, .int .i64 t286]] (by rfl) rfl rfl (by (try simp only [mp]); first | done | rfl | (simp only [ld]; rfl)) ?_; (with_reducible refine (serinetteref03_star.calls k t285 t286 t292 _ (by first | exact FI.tb2 HTb HB HBW | exact FI.tb1 HTb HB | exact FI.tb3 HTb HB HBW | exact FI.tb1 HTb ab_) A14.out).mono ?_); rintro e w30 ⟨rfl, hb⟩; refine ⟨_, rfl, ?_⟩; replace HBW := hs HBW hb; clear hb; refine hK.out _ _ (hs7 HBW.out hH0) (fun hHeld => ?_); clear hK K; refine norm_ (a' := ?_) ?_ ?_; rotate_left
         · (show Act.put _ (some 11) _ = _); simp only [ap]; rfl
         refine pure_ (i := 3) (N := some 12) (v := ?_) (a' := ?_) (bA 15 3183) rfl rfl (any_of HT_.out (by kernel_rfl)) (fun _ _ _ h => h) (Or.inl ⟨by rfl, ?_⟩) ?_ ?_; rotate_left
         · intro w'; go_simp; with_reducible rfl
         rotate_left
         · simp only [ap]; rfl
         refine pure_ (i := 4) (N := some 13) (v := ?_) (a' := ?_) (bA 15 3199) rfl rfl (any_of HT_.out (by kernel_rfl)) (fun _ _ _ h => h) (Or.inl ⟨by rfl, ?_⟩) ?_ ?_; rotate_left
         · intro w'; go_simp; with_reducible rfl
         rotate_left
         · simp only [ap]; rfl
         refine one_ (i := 7) (N := some 16) (bA 15 3327) rfl rfl (one_of HT_.out (by kernel_rfl)) (by decide) (fun K hK => ?_); refine goes_ Tryz.func34 (by kernel_rfl) rfl #[.agg #[.int .i64 t287, .int .i64 t288]] (by rfl) rfl rfl (by (try simp only [mp]); first | done | rfl | (simp only [ld]; rfl)) ?_; (with_reducible refine (serinetteref03_star.calls k t287 t288 t293 _ (by first | exact FI.tb2 HTb HB HBW | exact FI.tb1 HTb HB | exact FI.tb3 HTb HB HBW | exact FI.tb1 HTb ab_) A17.out).mono ?_); rintro e w31 ⟨rfl, hb⟩; refine ⟨_, rfl, ?_⟩; replace HBW := hs HBW hb; clear hb; refine hK.out _ _ (hs7 HBW.out hH0) (fun hHeld => ?_); clear hK K; refine norm_ (a' := ?_) ?_ ?_; rotate_left
         · (show Act.put _ (some 16) _ = _); simp only [ap]; rfl
         refine pure_ (i := 8) (N := some 17) (v := ?_) (a' := ?_) (bA 15 3583) rfl rfl (any_of HT_.out (by kernel_rfl)) (fun _ _ _ h => h) (Or.inl ⟨by rfl, ?_⟩) ?_ ?_; rotate_left
         · intro w'; go_simp; with_reducible rfl
         rotate_left
         · simp only [ap]; rfl
         refine pure_ (i := 9) (N := some 18) (v := ?_) (a' := ?_) (bA 15 4095) rfl rfl (any_of HT_.out (by kernel_rfl)) (fun _ _ _ h => h) (Or.inl ⟨by rfl, ?_⟩) ?_ ?_; rotate_left
         · intro w'; go_simp; with_reducible rfl
         rotate_left
         · simp only [ap]; rfl
         refine one_ (i := 12) (N := some 21) (bA 15 8191) rfl rfl (one_of HT_.out (by kernel_rfl)) (by decide) (fun K hK => ?_); refine goes_ Tryz.func33 (by kernel_rfl) rfl #[.int .i64 t289, .int .i64 10] (by rfl) rfl rfl (by (try simp only [mp]); first | done | rfl | (simp only [ld]; rfl)) ?_; (with_reducible refine (strconv_FormatInt_33.calls t289 10 t294 _ (by first | exact FI.tb2 HTb HB HBW | exact FI.tb1 HTb HB | exact FI.tb3 HTb HB HBW | exact FI.tb1 HTb ab_) A20.out).mono ?_); rintro e w32 ⟨rfl, hb⟩; refine ⟨_, rfl, ?_⟩; replace HBW := hs HBW hb; clear hb; refine hK.out _ _ (hs7 HBW.out hH0) (fun hHeld => ?_); clear hK K; refine norm_ (a' := ?_) ?_ ?_; rotate_left
         · (show Act.put _ (some 21) _ = _); simp only [ap]; rfl
         refine pure_ (i := 13) (N := some 22) (v := ?_) (a' := ?_) (bA 15 16383) rfl rfl (any_of HT_.out (by kernel_rfl)) (fun _ _ _ h => h) (Or.inl ⟨by rfl, ?_⟩) ?_ ?_; rotate_left
         · intro w'; go_simp; with_reducible rfl
         rotate_left
         · simp only [ap]; rfl
         refine pure_ (i := 14) (N := some 3) (v := ?_) (a' := ?_) (bA 15 32767) rfl rfl (any_of HT_.out (by kernel_rfl)) (fun _ _ _ h => h) (Or.inl ⟨by rfl, ?_⟩) ?_ ?_; rotate_left
         · intro w'; go_simp; with_reducible rfl
         rotate_left
         · simp only [ap]; rfl
         replace BK284 := kb BK284 HBW.out; replace HB := hs HB HBW.out; refine done_ (done_of HT_.out (by kernel_rfl)) ?_; clear HBW hH0; obtain ⟨hcz33_0, hcz33_1, hcz33_2, hcz33_3, hcz33_4, hcz33_5, hcz33_6⟩ := bc7 BK284.out; obtain ⟨hfz33_0, hfz33_1, hfz33_2, hfz33_3, hfz33_4, hfz33_5, hfz33_6⟩ := bf7 BK284.out; (try go_wp2); go_ret; exact en_
        · rw [if_neg c23] at H; exact absurd H (by simp)
       ·
        replace c22 := Bool.eq_false_iff.mpr c22; subst c22; rw [if_neg (show ¬ (false = true) by decide)] at H; obtain rfl := Option.some.inj H; go_enter Tryz.func11, Tryz.ntmps11; (try go_wp2_with (first | ((with_reducible refine gate_dst (N := 1) rfl ?_); refine bx_ 1 #[.int .i64 a0_0, .int .i64 a0_1, .int .i64 a0_2, .int .i64 a0_3, .int .i64 a0_4, .bool a0_5, .bool a0_6] 25 ?_; intro gb284 hg w34 BK284 hb; have GE284 := hz_ hg HB; replace HB := hs HB hb; clear hb hg; obtain ⟨hcz35_0, hcz35_1, hcz35_2, hcz35_3, hcz35_4, hcz35_5, hcz35_6⟩ := bc7 BK284.out; obtain ⟨hfz35_0, hfz35_1, hfz35_2, hfz35_3, hfz35_4, hfz35_5, hfz35_6⟩ := bf7 BK284.out) | ((with_reducible refine gate_callee (f := 31) rfl ?_); refine goesL_ (some 5) rfl rfl Tryz.func31 (by kernel_rfl) rfl #[.agg #[.int .i64 a0_0, .int .i64 a0_1, .int .i64 a0_2, .int .i64 a0_3, .int .i64 a0_4, .bool a0_5, .bool a0_6]] rfl (by (try simp only [mp]); first | done | rfl | (simp only [ld]; rfl)) ?_; (with_reducible refine (serinetteref03_Clean.calls k a0_0 a0_1 a0_2 a0_3 a0_4 a0_5 a0_6 t285 t286 t287 t288 t289 false false _ A2.out).mono ?_); rintro e w36 ⟨rfl, hb⟩; refine ⟨_, rfl, ?_⟩; replace BK284 := kb BK284 hb; replace HB := hb_ w hb; obtain ⟨hcz37_0, hcz37_1, hcz37_2, hcz37_3, hcz37_4, hcz37_5, hcz37_6⟩ := bc7 BK284.out; obtain ⟨hfz37_0, hfz37_1, hfz37_2, hfz37_3, hfz37_4, hfz37_5, hfz37_6⟩ := bf7 BK284.out))); have n0_ : Aside0 ((((((((w36.setCell ⟨gb284, 0, none⟩ (.int .i64 t285)).setCell ⟨gb284, 1, none⟩ (.int .i64 t286)).setCell ⟨gb284, 2, none⟩ (.int .i64 t287)).setCell ⟨gb284, 3, none⟩ (.int .i64 t288)).setCell ⟨gb284, 4, none⟩ (.int .i64 t289)).setCell ⟨gb284, 5, none⟩ (.bool false)).setCell ⟨gb284, 6, none⟩ (.bool false)).heap[gb284]? = some (.cells #[.int .i64 t285, .int .i64 t286, .int .i64 t287, .int .i64 t288, .int .i64 t289, .bool false, .bool false] 25 (0, 0))) := ⟨by exact rq BK284.out (by rfl)⟩; have n1_ : Aside0 (Below w.heap.size w (((((((w36.setCell ⟨gb284, 0, none⟩ (.int .i64 t285)).setCell ⟨gb284, 1, none⟩ (.int .i64 t286)).setCell ⟨gb284, 2, none⟩ (.int .i64 t287)).setCell ⟨gb284, 3, none⟩ (.int .i64 t288)).setCell ⟨gb284, 4, none⟩ (.int .i64 t289)).setCell ⟨gb284, 5, none⟩ (.bool false)).setCell ⟨gb284, 6, none⟩ (.bool false))) := ab2_; (try clear BK284); (try clear HB); generalize (((((((w36.setCell ⟨gb284, 0, none⟩ (.int .i64 t285)).setCell ⟨gb284, 1, none⟩ (.int .i64 t286)).setCell ⟨gb284, 2, none⟩ (.int .i64 t287)).setCell ⟨gb284, 3, none⟩ (.int .i64 t288)).setCell ⟨gb284, 4, none⟩ (.int .i64 t289)).setCell ⟨gb284, 5, none⟩ (.bool false)).setCell ⟨gb284, 6, none⟩ (.bool false)) = w38 at n0_ n1_ ⊢; have BK284 := n0_; have HB := n1_; clear n0_ n1_; replace BK284 := kd BK284; replace HB := Aside0.mk (below_drew1 HB.out); refine start_ (n := 15) (S := fun w' => w'.cell? ⟨gb284, 0, none⟩ = some (.int .i64 t285) ∧ w'.cell? ⟨gb284, 1, none⟩ = some (.int .i64 t286) ∧ w'.cell? ⟨gb284, 2, none⟩ = some (.int .i64 t287) ∧ w'.cell? ⟨gb284, 3, none⟩ = some (.int .i64 t288) ∧ w'.cell? ⟨gb284, 4, none⟩ = some (.int .i64 t289) ∧ w'.cell? ⟨gb284, 5, none⟩ = some (.bool false) ∧ w'.cell? ⟨gb284, 6, none⟩ = some (.bool false)) (ds := []) (bA 15 0) (by kernel_rfl) rfl rfl ⟨(blk_cell BK284.out 0).trans rfl, (blk_cell BK284.out 1).trans rfl, (blk_cell BK284.out 2).trans rfl, (blk_cell BK284.out 3).trans rfl, (blk_cell BK284.out 4).trans rfl, (blk_cell BK284.out 5).trans rfl, (blk_cell BK284.out 6).trans rfl⟩ (fun hHeld => ?_); refine with_tabW serinetteref03_Text.tab4 serinetteref03_Text.bits4 (fun HT_ HW_ => ?_); generalize w38.drew = w39 at BK284 HB hHeld ⊢; have hH0 := hHeld; have HBW := hbw w39; refine pure_ (i := 0) (N := some 9) (v := ?_) (a' := ?_) (bA 15 1) rfl rfl (any_of HT_.out (by kernel_rfl)) (fun _ _ _ h => h) (Or.inl ⟨by rfl, ?_⟩) ?_ ?_; rotate_left
        · intro w'; go_simp; with_reducible rfl
        rotate_left
        · simp only [ap]; rfl
        refine pure_ (i := 5) (N := some 14) (v := ?_) (a' := ?_) (bA 15 33) rfl rfl (any_of HT_.out (by kernel_rfl)) (fun _ _ _ h => h) (Or.inl ⟨by rfl, ?_⟩) ?_ ?_; rotate_left
        · intro w'; go_simp; with_reducible rfl
        rotate_left
        · simp only [ap]; rfl
        refine pure_ (i := 10) (N := some 19) (v := ?_) (a' := ?_) (bA 15 1057) rfl rfl (any_of HT_.out (by kernel_rfl)) (fun _ _ _ h => h) (Or.inl ⟨by rfl, ?_⟩) ?_ ?_; rotate_left
        · intro w'; go_simp; with_reducible rfl
        rotate_left
        · simp only [ap]; rfl
        refine take_ (i := 1) (N := some 10) (v := ?_) (a' := ?_) (bA 15 1059) rfl rfl (take_ofW HT_.out HW_.out (by kernel_rfl)) (fun _ _ _ h => h) (Or.inl ⟨by rfl, ?_⟩) hHeld ?_ ?_; rotate_left
        · rintro w' ⟨s0, s1, s2, s3, s4, s5, s6⟩; go_simp; with_reducible rfl
        rotate_left
        · simp only [ap]; rfl
        refine take_ (i := 6) (N := some 15) (v := ?_) (a' := ?_) (bA 15 1123) rfl rfl (take_ofW HT_.out HW_.out (by kernel_rfl)) (fun _ _ _ h => h) (Or.inl ⟨by rfl, ?_⟩) hHeld ?_ ?_; rotate_left
        · rintro w' ⟨s0, s1, s2, s3, s4, s5, s6⟩; go_simp; with_reducible rfl
        rotate_left
        · simp only [ap]; rfl
        refine take_ (i := 11) (N := some 20) (v := ?_) (a' := ?_) (bA 15 3171) rfl rfl (take_ofW HT_.out HW_.out (by kernel_rfl)) (fun _ _ _ h => h) (Or.inl ⟨by rfl, ?_⟩) hHeld ?_ ?_; rotate_left
        · rintro w' ⟨s0, s1, s2, s3, s4, s5, s6⟩; go_simp; with_reducible rfl
        rotate_left
        · simp only [ap]; rfl
        refine one_ (i := 2) (N := some 11) (bA 15 3175) rfl rfl (one_of HT_.out (by kernel_rfl)) (by decide) (fun K hK => ?_); refine goes_ Tryz.func34 (by kernel_rfl) rfl #[.agg #[.int .i64 t285, .int .i64 t286]] (by rfl) rfl rfl (by (try simp only [mp]); first | done | rfl | (simp only [ld]; rfl)) ?_; (with_reducible refine (serinetteref03_star.calls k t285 t286 t292 _ (by first | exact FI.tb2 HTb HB HBW | exact FI.tb1 HTb HB | exact FI.tb3 HTb HB HBW | exact FI.tb1 HTb ab_) A14.out).mono ?_); rintro e w40 ⟨rfl, hb⟩; refine ⟨_, rfl, ?_⟩; replace HBW := hs HBW hb; clear hb; refine hK.out _ _ (hs7 HBW.out hH0) (fun hHeld => ?_); clear hK K; refine norm_ (a' := ?_) ?_ ?_; rotate_left
        · (show Act.put _ (some 11) _ = _); simp only [ap]; rfl
        refine pure_ (i := 3) (N := some 12) (v := ?_) (a' := ?_) (bA 15 3183) rfl rfl (any_of HT_.out (by kernel_rfl)) (fun _ _ _ h => h) (Or.inl ⟨by rfl, ?_⟩) ?_ ?_; rotate_left
        · intro w'; go_simp; with_reducible rfl
        rotate_left
        · simp only [ap]; rfl
        refine pure_ (i := 4) (N := some 13) (v := ?_) (a' := ?_) (bA 15 3199) rfl rfl (any_of HT_.out (by kernel_rfl)) (fun _ _ _ h => h) (Or.inl ⟨by rfl, ?_⟩) ?_ ?_; rotate_left
        · intro w'; go_simp; with_reducible rfl
        rotate_left
        · simp only [ap]; rfl
        refine one_ (i := 7) (N := some 16) (bA 15 3327) rfl rfl (one_of HT_.out (by kernel_rfl)) (by decide) (fun K hK => ?_); refine goes_ Tryz.func34 (by kernel_rfl) rfl #[.agg #[.int .i64 t287, .int .i64 t288]] (by rfl) rfl rfl (by (try simp only [mp]); first | done | rfl | (simp only [ld]; rfl)) ?_; (with_reducible refine (serinetteref03_star.calls k t287 t288 t293 _ (by first | exact FI.tb2 HTb HB HBW | exact FI.tb1 HTb HB | exact FI.tb3 HTb HB HBW | exact FI.tb1 HTb ab_) A17.out).mono ?_); rintro e w41 ⟨rfl, hb⟩; refine ⟨_, rfl, ?_⟩; replace HBW := hs HBW hb; clear hb; refine hK.out _ _ (hs7 HBW.out hH0) (fun hHeld => ?_); clear hK K; refine norm_ (a' := ?_) ?_ ?_; rotate_left
        · (show Act.put _ (some 16) _ = _); simp only [ap]; rfl
        refine pure_ (i := 8) (N := some 17) (v := ?_) (a' := ?_) (bA 15 3583) rfl rfl (any_of HT_.out (by kernel_rfl)) (fun _ _ _ h => h) (Or.inl ⟨by rfl, ?_⟩) ?_ ?_; rotate_left
        · intro w'; go_simp; with_reducible rfl
        rotate_left
        · simp only [ap]; rfl
        refine pure_ (i := 9) (N := some 18) (v := ?_) (a' := ?_) (bA 15 4095) rfl rfl (any_of HT_.out (by kernel_rfl)) (fun _ _ _ h => h) (Or.inl ⟨by rfl, ?_⟩) ?_ ?_; rotate_left
        · intro w'; go_simp; with_reducible rfl
        rotate_left
        · simp only [ap]; rfl
        refine one_ (i := 12) (N := some 21) (bA 15 8191) rfl rfl (one_of HT_.out (by kernel_rfl)) (by decide) (fun K hK => ?_); refine goes_ Tryz.func33 (by kernel_rfl) rfl #[.int .i64 t289, .int .i64 10] (by rfl) rfl rfl (by (try simp only [mp]); first | done | rfl | (simp only [ld]; rfl)) ?_; (with_reducible refine (strconv_FormatInt_33.calls t289 10 t294 _ (by first | exact FI.tb2 HTb HB HBW | exact FI.tb1 HTb HB | exact FI.tb3 HTb HB HBW | exact FI.tb1 HTb ab_) A20.out).mono ?_); rintro e w42 ⟨rfl, hb⟩; refine ⟨_, rfl, ?_⟩; replace HBW := hs HBW hb; clear hb; refine hK.out _ _ (hs7 HBW.out hH0) (fun hHeld => ?_); clear hK K; refine norm_ (a' := ?_) ?_ ?_; rotate_left
        · (show Act.put _ (some 21) _ = _); simp only [ap]; rfl
        refine pure_ (i := 13) (N := some 22) (v := ?_) (a' := ?_) (bA 15 16383) rfl rfl (any_of HT_.out (by kernel_rfl)) (fun _ _ _ h => h) (Or.inl ⟨by rfl, ?_⟩) ?_ ?_; rotate_left
        · intro w'; go_simp; with_reducible rfl
        rotate_left
        · simp only [ap]; rfl
        refine pure_ (i := 14) (N := some 3) (v := ?_) (a' := ?_) (bA 15 32767) rfl rfl (any_of HT_.out (by kernel_rfl)) (fun _ _ _ h => h) (Or.inl ⟨by rfl, ?_⟩) ?_ ?_; rotate_left
        · intro w'; go_simp; with_reducible rfl
        rotate_left
        · simp only [ap]; rfl
        replace BK284 := kb BK284 HBW.out; replace HB := hs HB HBW.out; refine done_ (done_of HT_.out (by kernel_rfl)) ?_; clear HBW hH0; obtain ⟨hcz43_0, hcz43_1, hcz43_2, hcz43_3, hcz43_4, hcz43_5, hcz43_6⟩ := bc7 BK284.out; obtain ⟨hfz43_0, hfz43_1, hfz43_2, hfz43_3, hfz43_4, hfz43_5, hfz43_6⟩ := bf7 BK284.out; (try go_wp2); go_ret; exact en_
      · rw [if_neg c21] at H; exact absurd H (by simp)
     · rw [if_neg c19] at H; exact absurd H (by simp)
    · rw [if_neg c18] at H; exact absurd H (by simp)
   · rw [if_neg c16] at H; exact absurd H (by simp)
  · rw [if_neg c15] at H; exact absurd H (by simp)
mutual
def span_Op.j0 : Nat → ByteArray → List (S25) → Int → Bool → Option (Int × Int × Int × Int × Int × Bool × Bool × Int)
 | 0, _, _, _, _ => none
 | k + 1, x0, x1, x6, x21 => if x21 = true then (none) else (span_Op.l0 k x0 x6 ([] : List (S25)) false false x1 (x1.length : Int) 0)
def span_Op.l0 : Nat → ByteArray → Int → List (S25) → Bool → Bool → List (S25) → Int → Int → Option (Int × Int × Int × Int × Int × Bool × Bool × Int)
 | 0, _, _, _, _, _, _, _, _ => none
 | k + 1, x0, x6, x7, x8, x9, x23, x24, x25 => if x25 < x24 then (if 0 ≤ x25 then (if x25 < (x23.length : Int) then ((span_valid.f k ((rd_T25 x23 x25).f0.f0) ((rd_T25 x23 x25).f0.f1) ((rd_T25 x23 x25).f1.f0) ((rd_T25 x23 x25).f1.f1) ((rd_T25 x23 x25).f2) ((rd_T25 x23 x25).f3) ((rd_T25 x23 x25).f4)).bind fun bt894 => (if x7.length < 2932031007402 then ((some (x7 ++ [(⟨(⟨bt894.1, bt894.2.1⟩ : S23), (⟨bt894.2.2.1, bt894.2.2.2.1⟩ : S23), bt894.2.2.2.2.1, bt894.2.2.2.2.2.1, bt894.2.2.2.2.2.2⟩ : S25)] : List (S25))).bind fun y901 => (if x8 = true then (none) else (if x9 = true then (none) else (span_Op.l0 k x0 x6 y901 bt894.2.2.2.2.2.1 bt894.2.2.2.2.2.2 x23 x24 (wrap64 (x25 + 1)))))) else (none))) else (none)) else (none)) else (if x6 = 3 then (none) else (if x9 = true then (none) else (if x6 = 1 then (none) else (if 0 < (x7.length : Int) then (if 1 < (x7.length : Int) then ((span_binary.f k x0 ((rd_T25 x7 0).f0.f0) ((rd_T25 x7 0).f0.f1) ((rd_T25 x7 0).f1.f0) ((rd_T25 x7 0).f1.f1) ((rd_T25 x7 0).f2) ((rd_T25 x7 0).f3) ((rd_T25 x7 0).f4) ((rd_T25 x7 1).f0.f0) ((rd_T25 x7 1).f0.f1) ((rd_T25 x7 1).f1.f0) ((rd_T25 x7 1).f1.f1) ((rd_T25 x7 1).f2) ((rd_T25 x7 1).f3) ((rd_T25 x7 1).f4) x8).bind fun bt931 => (some (bt931.1, bt931.2.1, bt931.2.2.1, bt931.2.2.2.1, bt931.2.2.2.2.1, bt931.2.2.2.2.2.1, bt931.2.2.2.2.2.2, 0))) else (none)) else (none)))))
end
def span_Op.f (k : Nat) (a0 : ByteArray) (l1 : List (S25)) : Option (Int × Int × Int × Int × Int × Bool × Bool × Int) := (span_arity.f k a0).bind fun t891 => (if t891 = 0 then (none) else (span_Op.j0 k a0 l1 t891 ((l1.length : Int) != t891)))
theorem span_Op.mono_l : ∀ k, (∀ y0 y1 y2 y3, LeO (span_Op.j0 k y0 y1 y2 y3) (span_Op.j0 (k + 1) y0 y1 y2 y3)) ∧ (∀ y0 y1 y2 y3 y4 y5 y6 y7, LeO (span_Op.l0 k y0 y1 y2 y3 y4 y5 y6 y7) (span_Op.l0 (k + 1) y0 y1 y2 y3 y4 y5 y6 y7))
 | 0 => ⟨fun _ _ _ _ r h => by simp [span_Op.j0] at h, fun _ _ _ _ _ _ _ _ r h => by simp [span_Op.l0] at h⟩
 | k + 1 => by
  obtain ⟨ih0, ih1⟩ := span_Op.mono_l k
  refine ⟨?_, ?_⟩
  ·
   intro y0 y1 y2 y3
   unfold span_Op.j0
   repeat' first
   | (with_reducible exact ih0 _ _ _ _)
   | (with_reducible exact ih1 _ _ _ _ _ _ _ _)
   | (with_reducible exact span_arity.mono _ _)
   | (with_reducible exact span_binary.mono _ _ _ _ _ _ _ _ _ _ _ _ _ _ _ _ _)
   | (with_reducible exact span_valid.mono _ _ _ _ _ _ _ _)
   | (with_reducible exact LeO.refl _)
   | (with_reducible exact LeO.none _)
   | (with_reducible refine LeO.ite ?_ ?_)
   | (with_reducible refine LeO.bind ?_ (fun _ => ?_))
   | exact ih0 _ _ _ _
   | exact ih1 _ _ _ _ _ _ _ _
   | exact span_arity.mono _ _
   | exact span_binary.mono _ _ _ _ _ _ _ _ _ _ _ _ _ _ _ _ _
   | exact span_valid.mono _ _ _ _ _ _ _ _
   | exact LeO.none _
   | refine LeO.ite ?_ ?_
   | refine LeO.bind ?_ (fun _ => ?_)
  ·
   intro y0 y1 y2 y3 y4 y5 y6 y7
   unfold span_Op.l0
   repeat' first
   | (with_reducible exact ih0 _ _ _ _)
   | (with_reducible exact ih1 _ _ _ _ _ _ _ _)
   | (with_reducible exact span_arity.mono _ _)
   | (with_reducible exact span_binary.mono _ _ _ _ _ _ _ _ _ _ _ _ _ _ _ _ _)
   | (with_reducible exact span_valid.mono _ _ _ _ _ _ _ _)
   | (with_reducible exact LeO.refl _)
   | (with_reducible exact LeO.none _)
   | (with_reducible refine LeO.ite ?_ ?_)
   | (with_reducible refine LeO.bind ?_ (fun _ => ?_))
   | exact ih0 _ _ _ _
   | exact ih1 _ _ _ _ _ _ _ _
   | exact span_arity.mono _ _
   | exact span_binary.mono _ _ _ _ _ _ _ _ _ _ _ _ _ _ _ _ _
   | exact span_valid.mono _ _ _ _ _ _ _ _
   | exact LeO.none _
   | refine LeO.ite ?_ ?_
   | refine LeO.bind ?_ (fun _ => ?_)
theorem span_Op.mono : ∀ a0 a1 k, LeO (span_Op.f k a0 a1) (span_Op.f (k + 1) a0 a1) := by
 intro a0 a1 k
 obtain ⟨ih0, ih1⟩ := span_Op.mono_l k
 unfold span_Op.f
 repeat' first
   | (with_reducible exact ih0 _ _ _ _)
   | (with_reducible exact ih1 _ _ _ _ _ _ _ _)
   | (with_reducible exact span_arity.mono _ _)
   | (with_reducible exact span_binary.mono _ _ _ _ _ _ _ _ _ _ _ _ _ _ _ _ _)
   | (with_reducible exact span_valid.mono _ _ _ _ _ _ _ _)
   | (with_reducible exact LeO.refl _)
   | (with_reducible exact LeO.none _)
   | (with_reducible refine LeO.ite ?_ ?_)
   | (with_reducible refine LeO.bind ?_ (fun _ => ?_))
   | exact ih0 _ _ _ _
   | exact ih1 _ _ _ _ _ _ _ _
   | exact span_arity.mono _ _
   | exact span_binary.mono _ _ _ _ _ _ _ _ _ _ _ _ _ _ _ _ _
   | exact span_valid.mono _ _ _ _ _ _ _ _
   | exact LeO.none _
   | refine LeO.ite ?_ ?_
   | refine LeO.bind ?_ (fun _ => ?_)
def span_Op.T11 : Bool × List (List Nat × List Nat) := (true, [([], []), ([0], [0]), ([1], [1]), ([2, 1], [1, 2]), ([1, 3], [1, 3]), ([], []), ([5, 1], [5]), ([6], [6]), ([7, 6], [6, 7]), ([6, 8], [6, 8]), ([4, 6, 0, 1, 2, 3, 4], [0, 4]), ([9, 10, 0, 1, 2, 3, 4, 5, 6, 7, 8, 9, 10], [5, 9])])
def span_Op.B11 : List Nat := [0, 1, 3, 7, 15, 0, 35, 99, 227, 483, 127, 2047]
theorem span_Op.tab11 : rtab .any (opsOf Tryz.f48 11) = span_Op.T11 := by kernel_rfl
theorem span_Op.bits11 : waitsOk span_Op.T11.2 span_Op.B11 = true := by kernel_rfl
def span_Op.T19 : Bool × List (List Nat × List Nat) := (true, [([], []), ([], []), ([1], [1]), ([2], [2]), ([], []), ([4], [4]), ([5], [5]), ([], []), ([0, 3, 6, 7], [0, 3, 6, 7]), ([8, 8, 0, 1, 2, 3, 4, 5, 6, 7, 8], [8]), ([9, 0, 1, 2, 3, 4, 5, 6, 7, 8, 9], [])])
def span_Op.B19 : List Nat := [0, 0, 2, 6, 0, 16, 48, 0, 255, 511, 1023]
theorem span_Op.tab19 : rtab .any (opsOf Tryz.f48 19) = span_Op.T19 := by kernel_rfl
theorem span_Op.bits19 : waitsOk span_Op.T19.2 span_Op.B19 = true := by kernel_rfl
set_option maxHeartbeats 8000000 in
set_option maxRecDepth 100000 in
theorem span_Op.calls (k : Nat) (a0 : ByteArray) (A1 : Option Addr) (c1 : Nat) (l1 : List (S25)) (r1 : Int) (r2 : Int) (r3 : Int) (r4 : Int) (r5 : Int) (r6 : Bool) (r7 : Bool) (r8 : Int) (w : World) (hr1 : Kd.C k25 w A1 l1.length l1) (hc1 : l1.length ≤ c1) (h : span_Op.f k a0 l1 = some (r1, r2, r3, r4, r5, r6, r7, r8)) :
  Calls Tryz.prog 48 #[.string a0, .slice A1 l1.length c1] w fun e w' => e = .returned (.tuple #[.agg #[.int .i64 r1, .int .i64 r2, .int .i64 r3, .int .i64 r4, .int .i64 r5, .bool r6, .bool r7], .int .i64 r8]) ∧ Below w.heap.size w w' := by
 have hu25 := Tryz.underlying25; have HR1 := Aside0.mk hr1; have HC1 := Aside0.mk hc1; clear hr1 hc1; have HB := Aside0.mk (Below.refl w.heap.size w); have H : ((span_arity.f k a0).bind fun t891 => (if t891 = 0 then (none) else (span_Op.j0 k a0 l1 t891 ((l1.length : Int) != t891)))) = some (r1, r2, r3, r4, r5, r6, r7, r8) := h; clear h; replace H := Option.bind_eq_some_iff.mp H; obtain ⟨t891, A30, H⟩ := H; (try dsimp only at H); have A3 := Aside0.mk A30; clear A30; have HC4 := Aside0.mk H; clear H; go_enter Tryz.func48, Tryz.ntmps48; go_upto_region 2 with (first | ((with_reducible refine gate_dst (N := 4) rfl ?_); (try (refine gate_guard (by rfl) ?_; dsimp only)); refine bx_ 4 #[.int .i64 0, .int .i64 0, .int .i64 0, .int .i64 0, .int .i64 0, .bool false, .bool false] 25 ?_; intro gb890 hg w5 BK890 hb; have GE890 := hz_ hg HB; replace HB := hs HB hb; clear hb hg) | ((with_reducible refine gate_callee (f := 59) rfl ?_); refine goesL_ (some 13) rfl rfl Tryz.func59 (by kernel_rfl) rfl #[.string a0] rfl (by (try simp only [mp]); first | done | rfl | (simp only [ld]; rfl)) ?_; (with_reducible refine (span_arity.calls k a0 t891 _ A3.out).mono ?_); rintro e w' ⟨rfl, ⟨nd, rfl⟩⟩; refine ⟨_, rfl, ?_⟩)); (try simp only [Act.put, List.setIfInBounds_toArray, List.set_cons_zero, List.set_cons_succ])
 go_cut [21] (fun v21 wc => ∃ (kq : Nat) (x21_3 : Bool), v21 = .bool x21_3 ∧ Aside0 (span_Op.j0 kq a0 l1 t891 x21_3 = some (r1, r2, r3, r4, r5, r6, r7, r8)) ∧ Aside0 (kq ≤ k) ∧ Aside0 (wc.heap[gb890]? = some (.cells #[.int .i64 0, .int .i64 0, .int .i64 0, .int .i64 0, .int .i64 0, .bool false, .bool false] 25 (0, 0))) ∧ Aside0 (Below w.heap.size w wc))
 case first =>
  have H := HC4.out; clear HC4; by_cases c6 : t891 = 0
  · rw [if_pos c6] at H; cases H
  ·
   rw [if_neg c6] at H; have c6b0 : (t891 == 0) = false := beq_eq_false_iff_ne.mpr c6; have c6b1 : (t891 != 0) = true := bne_iff_ne.mpr c6; (first | rw [c6b0] | (simp only [i64_w, i32_w]; rw [c6b0]) | skip); have H' := Aside0.mk H; clear H; go_wp2; go_meet
   case rel => exact ⟨_, (((l1.length : Int) != t891)), (by first | rfl | (simp; done) | (simp [*]; done)), H', ⟨by first | omega | exact Nat.le_refl _⟩, ⟨bk BK890.out⟩, ab2_⟩
 case rest =>
  clear HC4; obtain ⟨kq, x21_3, rfl, HA, HJ3, BK890, HB⟩ := hcut; cases kq with
  | zero => exact absurd HA.out (by simp [span_Op.j0])
  | succ kj3 =>
   have H := HA.out; clear HA; simp only [span_Op.j0] at H; by_cases c7 : x21_3 = true
   · subst c7; rw [if_pos rfl] at H; cases H
   ·
    replace c7 := Bool.eq_false_iff.mpr c7; subst c7; rw [if_neg (show ¬ (false = true) by decide)] at H; have H' := Aside0.mk H; clear H; go_wp2
    go_loopg [7, 8, 9, 25] kj3 (fun kq v7 v8 v9 v25 w' => ∃ (x7_2 : List (S25)) (x8_2 : Bool) (x9_2 : Bool) (x25_2 : Int), v8 = .bool x8_2 ∧ v9 = .bool x9_2 ∧ v25 = .int .i64 x25_2 ∧ Aside0 (span_Op.l0 kq a0 t891 x7_2 x8_2 x9_2 l1 (l1.length : Int) x25_2 = some (r1, r2, r3, r4, r5, r6, r7, r8)) ∧ Aside0 (kq ≤ kj3) ∧ Aside0 (Kd.R k25 25 w' w.heap.size (fun k_ => k_ ≠ gb890) v7 x7_2) ∧ Aside0 (w'.heap[gb890]? = some (.cells #[.int .i64 0, .int .i64 0, .int .i64 0, .int .i64 0, .int .i64 0, .bool false, .bool false] 25 (0, 0))) ∧ Aside0 (Below w.heap.size w w'))
    case atStart => exact ⟨(([] : List (S25))), (false), (false), (0), (by first | rfl | (simp; done) | (simp [*]; done)), (by first | rfl | (simp; done) | (simp [*]; done)), (by first | rfl | (simp; done) | (simp [*]; done)), H', ⟨Nat.le_refl _⟩, ⟨by first | exact Kd.R_nil _ _ _ _ _ | exact Kd.N_nil _ _ _ _ _ | exact Kd.V_nil _ _ _ _ _ | exact Kd.Q_nil _ _ _ _ _ | exact Kd.S_nil _ _ _ _ _⟩, ⟨bk BK890.out⟩, ab2_⟩
    case round =>
     clear H'; (try clear c7); obtain ⟨x7_2, x8_2, x9_2, x25_2, rfl, rfl, rfl, HA, HK2, HO_7, BK890, HB⟩ := hrel; cases gk with
     | zero => exact absurd HA.out (by simp [span_Op.l0])
     | succ k2 =>
      have H := HA.out; clear HA; simp only [span_Op.l0] at H; by_cases c9 : x25_2 < (l1.length : Int)
      ·
       rw [if_pos c9] at H; have c9b0 : decide (x25_2 < (l1.length : Int)) = true := decide_eq_true c9; clear c9; by_cases c10 : 0 ≤ x25_2
       ·
        rw [if_pos c10] at H; have c10b0 : decide (0 ≤ x25_2) = true := decide_eq_true c10; clear c10; by_cases c11 : x25_2 < (l1.length : Int)
        ·
         rw [if_pos c11] at H; have c11b0 : decide (x25_2 < (l1.length : Int)) = true := decide_eq_true c11; clear c11; replace H := Option.bind_eq_some_iff.mp H; obtain ⟨⟨t894, t895, t896, t897, t898, t899, t900⟩, A120, H⟩ := H; (try dsimp only at H); have A12 := Aside0.mk A120; clear A120; by_cases c13 : x7_2.length < 2932031007402
         ·
          rw [if_pos c13] at H; have LMc13 := Aside0.mk c13; clear c13; obtain ⟨y901, hy901⟩ : ∃ y_ : List (S25), y_ = (x7_2 ++ [(⟨(⟨t894, t895⟩ : S23), (⟨t896, t897⟩ : S23), t898, t899, t900⟩ : S25)]) := ⟨_, rfl⟩; (replace H : (if x8_2 = true then (none) else (if x9_2 = true then (none) else (span_Op.l0 k2 a0 t891 y901 t899 t900 l1 (l1.length : Int) (wrap64 (x25_2 + 1))))) = some (r1, r2, r3, r4, r5, r6, r7, r8) := by first | (rw [hy901]; with_reducible exact H) | (have H2_ := (Option.bind_some _ _).symm.trans H; rw [hy901]; with_reducible exact H2_) | (have H2_ := (Option.bind_some _ _).symm.trans H; with_reducible exact H2_) | with_reducible exact H | (rw [hy901]; exact H) | exact H); have Ny901 := Aside0.mk hy901; clear hy901; by_cases c14 : x8_2 = true
          · subst c14; rw [if_pos rfl] at H; cases H
          ·
           replace c14 := Bool.eq_false_iff.mpr c14; subst c14; rw [if_neg (show ¬ (false = true) by decide)] at H; by_cases c30 : x9_2 = true
           · subst c30; rw [if_pos rfl] at H; cases H
           ·
            replace c30 := Bool.eq_false_iff.mpr c30; subst c30; rw [if_neg (show ¬ (false = true) by decide)] at H; have H' := Aside0.mk H; clear H; have p892 : 0 ≤ (x25_2 : Int) := of_decide_eq_true (by first | (with_reducible assumption) | assumption); have q892 : x25_2 < (l1.length : Int) := of_decide_eq_true (by first | (with_reducible assumption) | assumption); obtain ⟨ad892, e892, hx892_0, hx892_1, hx892_2, hx892_3, hx892_4, hx892_5, hx892_6⟩ := at_T25 HR1.out x25_2 p892 q892; cases e892; replace hx892_0 := (HB.out.cell (World.block_lt_of_cell? w _ hx892_0)).trans hx892_0; replace hx892_1 := (HB.out.cell (World.block_lt_of_cell? w _ hx892_1)).trans hx892_1; replace hx892_2 := (HB.out.cell (World.block_lt_of_cell? w _ hx892_2)).trans hx892_2; replace hx892_3 := (HB.out.cell (World.block_lt_of_cell? w _ hx892_3)).trans hx892_3; replace hx892_4 := (HB.out.cell (World.block_lt_of_cell? w _ hx892_4)).trans hx892_4; replace hx892_5 := (HB.out.cell (World.block_lt_of_cell? w _ hx892_5)).trans hx892_5; replace hx892_6 := (HB.out.cell (World.block_lt_of_cell? w _ hx892_6)).trans hx892_6; replace p892 := eq_true p892; replace q892 := eq_true q892; (try go_wp2_with (first | ((with_reducible refine gate_dst (N := 11) rfl ?_); (try (refine gate_guard (by rfl) ?_; dsimp only)); refine bx_ 11 #[.int .i64 0, .int .i64 0, .int .i64 0, .int .i64 0, .int .i64 0, .bool false, .bool false] 25 ?_; intro gb893 hg w38 BK893 hb; have GE893 := ge_ w hg; have NB890_893 := nlk hg BK890; have NB893_890 := ngk hg BK890; replace HO_7 := Aside0.mk (Kd.R_below (Kd.R_elderB (by (with_reducible repeat (first | apply Kd.R_alloc | apply Kd.R_drewN | apply Kd.R_drew)); exact HO_7.out) gb893 (Nat.le_of_eq hg.symm)) hb); replace BK890 := kb BK890 hb; replace HB := hb_ w hb; clear hb hg; have hnb39 := NB893_890.out; have hnc39 := NB890_893.out; obtain ⟨hcz40_0, hcz40_1, hcz40_2, hcz40_3, hcz40_4, hcz40_5, hcz40_6⟩ := bc7 BK893.out; obtain ⟨hfz40_0, hfz40_1, hfz40_2, hfz40_3, hfz40_4, hfz40_5, hfz40_6⟩ := bf7 BK893.out) | ((with_reducible refine gate_callee (f := 30) rfl ?_); refine goesL_ (some 30) rfl rfl Tryz.func30 (by kernel_rfl) rfl #[.agg #[.int .i64 ((rd_T25 l1 x25_2).f0.f0), .int .i64 ((rd_T25 l1 x25_2).f0.f1), .int .i64 ((rd_T25 l1 x25_2).f1.f0), .int .i64 ((rd_T25 l1 x25_2).f1.f1), .int .i64 ((rd_T25 l1 x25_2).f2), .bool ((rd_T25 l1 x25_2).f3), .bool ((rd_T25 l1 x25_2).f4)]] rfl (by (try simp only [mp]); first | done | rfl | (simp only [ld]; rfl)) ?_; (with_reducible refine (span_valid.calls k2 ((rd_T25 l1 x25_2).f0.f0) ((rd_T25 l1 x25_2).f0.f1) ((rd_T25 l1 x25_2).f1.f0) ((rd_T25 l1 x25_2).f1.f1) ((rd_T25 l1 x25_2).f2) ((rd_T25 l1 x25_2).f3) ((rd_T25 l1 x25_2).f4) t894 t895 t896 t897 t898 t899 t900 _ A12.out).mono ?_); rintro e w41 ⟨rfl, hb⟩; refine ⟨_, rfl, ?_⟩; replace HO_7 := Aside0.mk (Kd.R_below (by (with_reducible repeat (first | apply Kd.R_alloc | apply Kd.R_drewN | apply Kd.R_drew)); exact (Kd.R_mono (Kd.R_far (p := ⟨gb893, 6, none⟩) (Kd.R_far (p := ⟨gb893, 5, none⟩) (Kd.R_far (p := ⟨gb893, 4, none⟩) (Kd.R_far (p := ⟨gb893, 3, none⟩) (Kd.R_far (p := ⟨gb893, 2, none⟩) (Kd.R_far (p := ⟨gb893, 1, none⟩) (Kd.R_far (p := ⟨gb893, 0, none⟩) (Kd.R_mono HO_7.out (fun k_ hk => (⟨hk, hk.2⟩ : _ ∧ k_ ≠ gb893))) (fun _ hk => hk.2) (.int .i64 ((rd_T25 l1 x25_2).f0.f0))) (fun _ hk => hk.2) (.int .i64 ((rd_T25 l1 x25_2).f0.f1))) (fun _ hk => hk.2) (.int .i64 ((rd_T25 l1 x25_2).f1.f0))) (fun _ hk => hk.2) (.int .i64 ((rd_T25 l1 x25_2).f1.f1))) (fun _ hk => hk.2) (.int .i64 ((rd_T25 l1 x25_2).f2))) (fun _ hk => hk.2) (.bool ((rd_T25 l1 x25_2).f3))) (fun _ hk => hk.2) (.bool ((rd_T25 l1 x25_2).f4))) (fun _ h_ => h_.1))) hb); replace BK890 := Aside0.mk (blk_below (g := gb890) (o := .cells #[.int .i64 0, .int .i64 0, .int .i64 0, .int .i64 0, .int .i64 0, .bool false, .bool false] 25 (0, 0)) (by (iterate 7 refine f1 NB890_893 ?_); refine bk ?_; exact BK890.out) hb); replace BK893 := Aside0.mk (blk_below (g := gb893) (o := .cells #[.int .i64 ((rd_T25 l1 x25_2).f0.f0), .int .i64 ((rd_T25 l1 x25_2).f0.f1), .int .i64 ((rd_T25 l1 x25_2).f1.f0), .int .i64 ((rd_T25 l1 x25_2).f1.f1), .int .i64 ((rd_T25 l1 x25_2).f2), .bool ((rd_T25 l1 x25_2).f3), .bool ((rd_T25 l1 x25_2).f4)] 25 (0, 0)) (by exact rq BK893.out (by rfl)) hb); replace HB := hb_ w hb; (try clear hk); obtain ⟨hcz42_0, hcz42_1, hcz42_2, hcz42_3, hcz42_4, hcz42_5, hcz42_6⟩ := bc7 BK893.out; obtain ⟨hfz42_0, hfz42_1, hfz42_2, hfz42_3, hfz42_4, hfz42_5, hfz42_6⟩ := bf7 BK893.out) | ((with_reducible refine gate_builtin (b := .append) (xs := #[.tmp 31, .tmp 33]) rfl ?_); (try (refine gate_guard (by rfl) ?_; dsimp only)); at_builtin; refine Kd.R_append k25 (w0 := w) w.heap.size rfl (.tmp 31) (.tmp 33) 50 25 (.agg #[(.int .i64 0), (.int .i64 0), (.int .i64 0), (.int .i64 0), (.int .i64 0), (.bool false), (.bool false)]) 48 rfl Tryz.underlying50 info25 rfl (by decide) (by omega) u7 x7_2 (⟨(⟨t894, t895⟩ : S23), (⟨t896, t897⟩ : S23), t898, t899, t900⟩ : S25) [.int .i64 t894, .int .i64 t895, .int .i64 t896, .int .i64 t897, .int .i64 t898, .bool t899, .bool t900] (fun k_ => k_ ≠ gb890 ∧ k_ ≠ gb893) (fun _ => False) rfl (by first | (go_simp; done) | (go_simp; rfl)) ?aP (fun _ hk => hk.elim) ?aF ?aO ?aB ?aS ?aL ?_; (case aP => exact k25_mkM _ _ _ (⟨(⟨t894, t895⟩ : S23), (⟨t896, t897⟩ : S23), t898, t899, t900⟩ : S25)); (case aB => exact (by repeat first | (with_reducible exact HB.out) | refine bl1 ?_ | (with_reducible refine bset ?_ ‹_›) | exact HB.out)); (case aF => exact (fun k_ hk => ⟨Kd.freshB (g := gb890) (o := .cells #[.int .i64 0, .int .i64 0, .int .i64 0, .int .i64 0, .int .i64 0, .bool false, .bool false] 25 (0, 0)) (by (iterate 7 refine f1 NB890_893 ?_); refine bk ?_; exact BK890.out) k_ hk, Kd.freshB (g := gb893) (o := .cells #[.int .i64 t894, .int .i64 t895, .int .i64 t896, .int .i64 t897, .int .i64 t898, .bool t899, .bool t900] 25 (0, 0)) (by exact rq BK893.out (by rfl)) k_ hk⟩)); (case aO => exact (by (with_reducible repeat (first | apply Kd.R_alloc | apply Kd.R_drewN | apply Kd.R_drew)); exact Kd.R_mono (Kd.R_far (p := ⟨gb893, 6, none⟩) (Kd.R_far (p := ⟨gb893, 5, none⟩) (Kd.R_far (p := ⟨gb893, 4, none⟩) (Kd.R_far (p := ⟨gb893, 3, none⟩) (Kd.R_far (p := ⟨gb893, 2, none⟩) (Kd.R_far (p := ⟨gb893, 1, none⟩) (Kd.R_far (p := ⟨gb893, 0, none⟩) (Kd.R_mono HO_7.out (fun k_ hk => (⟨hk, hk.2⟩ : _ ∧ k_ ≠ gb893))) (fun _ hk => hk.2) (.int .i64 t894)) (fun _ hk => hk.2) (.int .i64 t895)) (fun _ hk => hk.2) (.int .i64 t896)) (fun _ hk => hk.2) (.int .i64 t897)) (fun _ hk => hk.2) (.int .i64 t898)) (fun _ hk => hk.2) (.bool t899)) (fun _ hk => hk.2) (.bool t900)) (fun _ hk => ⟨hk.1.1, hk.1.2⟩))); (case aS => exact (below_size (by repeat first | (with_reducible exact HB.out) | refine bl1 ?_ | (with_reducible refine bset ?_ ‹_›) | exact HB.out))); (case aL => have := LMc13.out; omega); intro v902 w43 ho hb hg hat; rw [← Ny901.out] at ho; have HO903 := Aside0.mk (ho); replace BK890 := Aside0.mk (blk_grown (g := gb890) (o := .cells #[.int .i64 0, .int .i64 0, .int .i64 0, .int .i64 0, .int .i64 0, .bool false, .bool false] 25 (0, 0)) (by (iterate 7 refine f1 NB890_893 ?_); refine bk ?_; exact BK890.out) hg (Kd.R_away HO_7.out (fun _ hk => hk.1))); replace BK893 := Aside0.mk (blk_grown (g := gb893) (o := .cells #[.int .i64 t894, .int .i64 t895, .int .i64 t896, .int .i64 t897, .int .i64 t898, .bool t899, .bool t900] 25 (0, 0)) (by exact rq BK893.out (by rfl)) hg (Kd.R_away HO_7.out (fun _ hk => hk.2))); replace HB := Aside0.mk (hb); clear HO_7; clear ho hb hg hat))); replace HO903 := Aside0.mk (Kd.R_drew HO903.out); replace BK890 := kd BK890; replace BK893 := kd BK893; replace HB := Aside0.mk (below_drew1 HB.out); refine start_ (n := 12) (S := fun w' => w'.cell? ⟨gb893, 0, none⟩ = some (.int .i64 t894) ∧ w'.cell? ⟨gb893, 1, none⟩ = some (.int .i64 t895) ∧ w'.cell? ⟨gb893, 2, none⟩ = some (.int .i64 t896) ∧ w'.cell? ⟨gb893, 3, none⟩ = some (.int .i64 t897) ∧ w'.cell? ⟨gb893, 4, none⟩ = some (.int .i64 t898) ∧ w'.cell? ⟨gb893, 5, none⟩ = some (.bool t899) ∧ w'.cell? ⟨gb893, 6, none⟩ = some (.bool t900)) (ds := []) (bA 12 0) (by kernel_rfl) rfl rfl ⟨(blk_cell BK893.out 0).trans rfl, (blk_cell BK893.out 1).trans rfl, (blk_cell BK893.out 2).trans rfl, (blk_cell BK893.out 3).trans rfl, (blk_cell BK893.out 4).trans rfl, (blk_cell BK893.out 5).trans rfl, (blk_cell BK893.out 6).trans rfl⟩ (fun hHeld => ?_); refine with_tabW span_Op.tab11 span_Op.bits11 (fun HT_ HW_ => ?_); generalize w43.drew = w44 at HO903 BK890 BK893 HB hHeld ⊢; refine pure_ (i := 0) (N := some 35) (v := ?_) (a' := ?_) (bA 12 1) rfl rfl (any_of HT_.out (by kernel_rfl)) (fun _ _ _ h => h) (Or.inl ⟨by rfl, ?_⟩) ?_ ?_; rotate_left
            · intro w'; go_simp; with_reducible rfl
            rotate_left
            · simp only [ap]; rfl
            refine pure_ (i := 1) (N := some 36) (v := ?_) (a' := ?_) (bA 12 3) rfl rfl (any_of HT_.out (by kernel_rfl)) (fun _ _ _ h => h) (Or.inl ⟨by rfl, ?_⟩) ?_ ?_; rotate_left
            · intro w'; go_simp; with_reducible rfl
            rotate_left
            · simp only [ap]; rfl
            refine pure_ (i := 2) (N := some 37) (v := ?_) (a' := ?_) (bA 12 7) rfl rfl (any_of HT_.out (by kernel_rfl)) (fun _ _ _ h => h) (Or.inl ⟨by rfl, ?_⟩) ?_ ?_; rotate_left
            · intro w'; go_simp; with_reducible rfl
            rotate_left
            · simp only [ap]; rfl
            refine pure_ (i := 5) (N := some 40) (v := ?_) (a' := ?_) (bA 12 39) rfl rfl (any_of HT_.out (by kernel_rfl)) (fun _ _ _ h => h) (Or.inl ⟨by rfl, ?_⟩) ?_ ?_; rotate_left
            · intro w'; go_simp; with_reducible rfl
            rotate_left
            · simp only [ap]; rfl
            refine pure_ (i := 6) (N := some 41) (v := ?_) (a' := ?_) (bA 12 103) rfl rfl (any_of HT_.out (by kernel_rfl)) (fun _ _ _ h => h) (Or.inl ⟨by rfl, ?_⟩) ?_ ?_; rotate_left
            · intro w'; go_simp; with_reducible rfl
            rotate_left
            · simp only [ap]; rfl
            refine pure_ (i := 7) (N := some 42) (v := ?_) (a' := ?_) (bA 12 231) rfl rfl (any_of HT_.out (by kernel_rfl)) (fun _ _ _ h => h) (Or.inl ⟨by rfl, ?_⟩) ?_ ?_; rotate_left
            · intro w'; go_simp; with_reducible rfl
            rotate_left
            · simp only [ap]; rfl
            refine take_ (i := 3) (N := some 38) (v := ?_) (a' := ?_) (bA 12 239) rfl rfl (take_ofW HT_.out HW_.out (by kernel_rfl)) (fun _ _ _ h => h) (Or.inl ⟨by rfl, ?_⟩) hHeld ?_ ?_; rotate_left
            · rintro w' ⟨s0, s1, s2, s3, s4, s5, s6⟩; go_simp; with_reducible rfl
            rotate_left
            · simp only [ap]; rfl
            refine pure_ (i := 4) (N := some 39) (v := ?_) (a' := ?_) (bA 12 255) rfl rfl (any_of HT_.out (by kernel_rfl)) (fun _ _ _ h => h) (Or.inl ⟨by rfl, ?_⟩) ?_ ?_; rotate_left
            · intro w'; go_simp; with_reducible rfl
            rotate_left
            · simp only [ap]; rfl
            refine pure_ (i := 10) (N := some 8) (v := ?_) (a' := ?_) (bA 12 1279) rfl rfl (any_of HT_.out (by kernel_rfl)) (fun _ _ _ h => h) (Or.inl ⟨by rfl, ?_⟩) ?_ ?_; rotate_left
            · intro w'; go_simp; with_reducible rfl
            rotate_left
            · simp only [ap]; rfl
            refine take_ (i := 8) (N := some 43) (v := ?_) (a' := ?_) (bA 12 1535) rfl rfl (take_ofW HT_.out HW_.out (by kernel_rfl)) (fun _ _ _ h => h) (Or.inl ⟨by rfl, ?_⟩) hHeld ?_ ?_; rotate_left
            · rintro w' ⟨s0, s1, s2, s3, s4, s5, s6⟩; go_simp; with_reducible rfl
            rotate_left
            · simp only [ap]; rfl
            refine pure_ (i := 9) (N := some 44) (v := ?_) (a' := ?_) (bA 12 2047) rfl rfl (any_of HT_.out (by kernel_rfl)) (fun _ _ _ h => h) (Or.inl ⟨by rfl, ?_⟩) ?_ ?_; rotate_left
            · intro w'; go_simp; with_reducible rfl
            rotate_left
            · simp only [ap]; rfl
            refine pure_ (i := 11) (N := some 9) (v := ?_) (a' := ?_) (bA 12 4095) rfl rfl (any_of HT_.out (by kernel_rfl)) (fun _ _ _ h => h) (Or.inl ⟨by rfl, ?_⟩) ?_ ?_; rotate_left
            · intro w'; go_simp; with_reducible rfl
            rotate_left
            · simp only [ap]; rfl
            refine done_ (done_of HT_.out (by kernel_rfl)) ?_; (try go_wp2); go_roundg k2
            case measure => have := HJ3.out; have := HK2.out; omega
            case rel => exact ⟨(y901), (t899), (t900), (wrap64 (x25_2 + 1)), (by first | rfl | (simp; done) | (simp [*]; done)), (by first | rfl | (simp; done) | (simp [*]; done)), (by first | rfl | (simp; done) | (simp [*]; done)), H', ⟨by have := HJ3.out; have := HK2.out; omega⟩, ⟨by (with_reducible repeat (first | apply Kd.R_alloc | apply Kd.R_drewN | apply Kd.R_drew)); exact Kd.R_mono HO903.out (fun _ hk => hk.1)⟩, ⟨bk BK890.out⟩, ab2_⟩
         · rw [if_neg c13] at H; exact absurd H (by simp)
        · rw [if_neg c11] at H; exact absurd H (by simp)
       · rw [if_neg c10] at H; exact absurd H (by simp)
      ·
       rw [if_neg c9] at H; have c9b0 : decide (x25_2 < (l1.length : Int)) = false := decide_eq_false c9; clear c9; by_cases c45 : t891 = 3
       · rw [if_pos c45] at H; cases H
       ·
        rw [if_neg c45] at H; have c45b0 : (t891 == 3) = false := beq_eq_false_iff_ne.mpr c45; have c45b1 : (t891 != 3) = true := bne_iff_ne.mpr c45; by_cases c60 : x9_2 = true
        · subst c60; rw [if_pos rfl] at H; cases H
        ·
         replace c60 := Bool.eq_false_iff.mpr c60; subst c60; rw [if_neg (show ¬ (false = true) by decide)] at H; by_cases c64 : t891 = 1
         · rw [if_pos c64] at H; cases H
         ·
          rw [if_neg c64] at H; have c64b0 : (t891 == 1) = false := beq_eq_false_iff_ne.mpr c64; have c64b1 : (t891 != 1) = true := bne_iff_ne.mpr c64; by_cases c70 : 0 < (x7_2.length : Int)
          ·
           rw [if_pos c70] at H; have c70b0 : decide (0 < (x7_2.length : Int)) = true := decide_eq_true c70; have c70b1 : decide (0 < x7_2.length) = true := decide_eq_true (by omega); clear c70; by_cases c71 : 1 < (x7_2.length : Int)
           ·
            rw [if_pos c71] at H; have c71b0 : decide (1 < (x7_2.length : Int)) = true := decide_eq_true c71; have c71b1 : decide (1 < x7_2.length) = true := decide_eq_true (by omega); clear c71; replace H := Option.bind_eq_some_iff.mp H; obtain ⟨⟨t931, t932, t933, t934, t935, t936, t937⟩, A720, H⟩ := H; (try dsimp only at H); have A72 := Aside0.mk A720; clear A720; simp only [Option.some.injEq, Prod.mk.injEq] at H; obtain ⟨rfl, rfl, rfl, rfl, rfl, rfl, rfl, rfl⟩ := H; (try go_wp2); replace HO_7 := Aside0.mk (Kd.R_drew HO_7.out); replace BK890 := kd BK890; replace HB := Aside0.mk (below_drew1 HB.out); obtain ⟨Ao74, co74, eo74⟩ := Kd.R_slice HO_7.out; (first | subst eo74 | (injection eo74 with f1_ f2_ f3_; have f4_ := f1_.symm; have f5_ := f3_.symm; clear f1_ f2_ f3_; subst f4_; subst f5_)); have p929 : 0 ≤ (0 : Int) := (by omega); have q929 : 0 < (x7_2.length : Int) := of_decide_eq_true (by first | (with_reducible assumption) | assumption); obtain ⟨ad929, e929, hx929_0, hx929_1, hx929_2, hx929_3, hx929_4, hx929_5, hx929_6⟩ := at_T25 (Kd.R_reads' HO_7.out).2.2 0 p929 q929; cases e929; have qi929 : (0 < x7_2.length) = True := eq_true (by omega); (try rw [show ((0 : Int)).toNat = 0 from rfl] at hx929_0); (try rw [show 0 * 7 = 0 from rfl] at hx929_0); (try rw [Addr.add_zero'] at hx929_0); (try rw [show ((0 : Int)).toNat = 0 from rfl] at hx929_1); (try rw [show 0 * 7 = 0 from rfl] at hx929_1); (try rw [Addr.add_zero'] at hx929_1); (try rw [show ((0 : Int)).toNat = 0 from rfl] at hx929_2); (try rw [show 0 * 7 = 0 from rfl] at hx929_2); (try rw [Addr.add_zero'] at hx929_2); (try rw [show ((0 : Int)).toNat = 0 from rfl] at hx929_3); (try rw [show 0 * 7 = 0 from rfl] at hx929_3); (try rw [Addr.add_zero'] at hx929_3); (try rw [show ((0 : Int)).toNat = 0 from rfl] at hx929_4); (try rw [show 0 * 7 = 0 from rfl] at hx929_4); (try rw [Addr.add_zero'] at hx929_4); (try rw [show ((0 : Int)).toNat = 0 from rfl] at hx929_5); (try rw [show 0 * 7 = 0 from rfl] at hx929_5); (try rw [Addr.add_zero'] at hx929_5); (try rw [show ((0 : Int)).toNat = 0 from rfl] at hx929_6); (try rw [show 0 * 7 = 0 from rfl] at hx929_6); (try rw [Addr.add_zero'] at hx929_6); replace p929 := eq_true p929; replace q929 := eq_true q929; have p930 : 0 ≤ (1 : Int) := (by omega); have q930 : 1 < (x7_2.length : Int) := of_decide_eq_true (by first | (with_reducible assumption) | assumption); obtain ⟨ad930, e930, hx930_0, hx930_1, hx930_2, hx930_3, hx930_4, hx930_5, hx930_6⟩ := at_T25 (Kd.R_reads' HO_7.out).2.2 1 p930 q930; obtain rfl : ad929 = ad930 := (by injection e930); (try simp only [show (1 : Int).toNat = 1 from rfl, Nat.reduceMul, Nat.reduceEqDiff, Go.Addr.add, ↓reduceIte] at hx930_0); (try simp only [show (1 : Int).toNat = 1 from rfl, Nat.reduceMul, Nat.reduceEqDiff, Go.Addr.add, ↓reduceIte] at hx930_1); (try simp only [show (1 : Int).toNat = 1 from rfl, Nat.reduceMul, Nat.reduceEqDiff, Go.Addr.add, ↓reduceIte] at hx930_2); (try simp only [show (1 : Int).toNat = 1 from rfl, Nat.reduceMul, Nat.reduceEqDiff, Go.Addr.add, ↓reduceIte] at hx930_3); (try simp only [show (1 : Int).toNat = 1 from rfl, Nat.reduceMul, Nat.reduceEqDiff, Go.Addr.add, ↓reduceIte] at hx930_4); (try simp only [show (1 : Int).toNat = 1 from rfl, Nat.reduceMul, Nat.reduceEqDiff, Go.Addr.add, ↓reduceIte] at hx930_5); (try simp only [show (1 : Int).toNat = 1 from rfl, Nat.reduceMul, Nat.reduceEqDiff, Go.Addr.add, ↓reduceIte] at hx930_6); have qi930 : (1 < x7_2.length) = True := eq_true (by omega); (try rw [show ((1 : Int)).toNat = 1 from rfl] at hx930_0); (try rw [show 1 * 7 = 7 from rfl] at hx930_0); (try rw [show ((1 : Int)).toNat = 1 from rfl] at hx930_1); (try rw [show 1 * 7 = 7 from rfl] at hx930_1); (try rw [show ((1 : Int)).toNat = 1 from rfl] at hx930_2); (try rw [show 1 * 7 = 7 from rfl] at hx930_2); (try rw [show ((1 : Int)).toNat = 1 from rfl] at hx930_3); (try rw [show 1 * 7 = 7 from rfl] at hx930_3); (try rw [show ((1 : Int)).toNat = 1 from rfl] at hx930_4); (try rw [show 1 * 7 = 7 from rfl] at hx930_4); (try rw [show ((1 : Int)).toNat = 1 from rfl] at hx930_5); (try rw [show 1 * 7 = 7 from rfl] at hx930_5); (try rw [show ((1 : Int)).toNat = 1 from rfl] at hx930_6); (try rw [show 1 * 7 = 7 from rfl] at hx930_6); replace p930 := eq_true p930; replace q930 := eq_true q930; refine start_ (n := 11) (S := fun w' => w'.cell? ad929 = some (.int .i64 ((rd_T25 x7_2 0).f0.f0)) ∧ w'.cell? ⟨ad929.block, ad929.off + 1, none⟩ = some (.int .i64 ((rd_T25 x7_2 0).f0.f1)) ∧ w'.cell? ⟨ad929.block, ad929.off + 2, none⟩ = some (.int .i64 ((rd_T25 x7_2 0).f1.f0)) ∧ w'.cell? ⟨ad929.block, ad929.off + 3, none⟩ = some (.int .i64 ((rd_T25 x7_2 0).f1.f1)) ∧ w'.cell? ⟨ad929.block, ad929.off + 4, none⟩ = some (.int .i64 ((rd_T25 x7_2 0).f2)) ∧ w'.cell? ⟨ad929.block, ad929.off + 5, none⟩ = some (.bool ((rd_T25 x7_2 0).f3)) ∧ w'.cell? ⟨ad929.block, ad929.off + 6, none⟩ = some (.bool ((rd_T25 x7_2 0).f4)) ∧ w'.cell? ⟨ad929.block, ad929.off + 7, none⟩ = some (.int .i64 ((rd_T25 x7_2 1).f0.f0)) ∧ w'.cell? ⟨ad929.block, ad929.off + 7 + 1, none⟩ = some (.int .i64 ((rd_T25 x7_2 1).f0.f1)) ∧ w'.cell? ⟨ad929.block, ad929.off + 7 + 2, none⟩ = some (.int .i64 ((rd_T25 x7_2 1).f1.f0)) ∧ w'.cell? ⟨ad929.block, ad929.off + 7 + 3, none⟩ = some (.int .i64 ((rd_T25 x7_2 1).f1.f1)) ∧ w'.cell? ⟨ad929.block, ad929.off + 7 + 4, none⟩ = some (.int .i64 ((rd_T25 x7_2 1).f2)) ∧ w'.cell? ⟨ad929.block, ad929.off + 7 + 5, none⟩ = some (.bool ((rd_T25 x7_2 1).f3)) ∧ w'.cell? ⟨ad929.block, ad929.off + 7 + 6, none⟩ = some (.bool ((rd_T25 x7_2 1).f4))) (ds := []) (bA 11 0) (by kernel_rfl) rfl rfl ⟨hx929_0, hx929_1, hx929_2, hx929_3, hx929_4, hx929_5, hx929_6, hx930_0, hx930_1, hx930_2, hx930_3, hx930_4, hx930_5, hx930_6⟩ (fun hHeld => ?_); refine with_tabW span_Op.tab19 span_Op.bits19 (fun HT_ HW_ => ?_); generalize wr.drew = w73 at HO_7 BK890 HB hx929_0 hx929_1 hx929_2 hx929_3 hx929_4 hx929_5 hx929_6 hx930_0 hx930_1 hx930_2 hx930_3 hx930_4 hx930_5 hx930_6 hHeld ⊢; have hH0 := hHeld; have HBW := hbw w73; refine pure_ (i := 0) (N := some 71) (v := ?_) (a' := ?_) (bA 11 1) rfl rfl (any_of HT_.out (by kernel_rfl)) (fun _ _ _ h => h) (Or.inl ⟨by rfl, ?_⟩) ?_ ?_; rotate_left
            · intro w'; go_simp; with_reducible rfl
            rotate_left
            · simp only [ap]; rfl
            refine pure_ (i := 1) (N := some 72) (v := ?_) (a' := ?_) (bA 11 3) rfl rfl (any_of HT_.out (by kernel_rfl)) (fun _ _ _ h => h) (Or.inl ⟨by rfl, ?_⟩) ?_ ?_; rotate_left
            · intro w'; go_simp; with_reducible rfl
            rotate_left
            · simp only [ap]; rfl
            refine pure_ (i := 2) (N := some 73) (v := ?_) (a' := ?_) (bA 11 7) rfl rfl (any_of HT_.out (by kernel_rfl)) (fun _ _ _ h => h) (Or.inl ⟨by rfl, ?_⟩) ?_ ?_; rotate_left
            · intro w'; go_simp; with_reducible rfl
            rotate_left
            · simp only [ap]; rfl
            refine pure_ (i := 4) (N := some 75) (v := ?_) (a' := ?_) (bA 11 23) rfl rfl (any_of HT_.out (by kernel_rfl)) (fun _ _ _ h => h) (Or.inl ⟨by rfl, ?_⟩) ?_ ?_; rotate_left
            · intro w'; go_simp; with_reducible rfl
            rotate_left
            · simp only [ap]; rfl
            refine pure_ (i := 5) (N := some 76) (v := ?_) (a' := ?_) (bA 11 55) rfl rfl (any_of HT_.out (by kernel_rfl)) (fun _ _ _ h => h) (Or.inl ⟨by rfl, ?_⟩) ?_ ?_; rotate_left
            · intro w'; go_simp; with_reducible rfl
            rotate_left
            · simp only [ap]; rfl
            refine pure_ (i := 7) (N := some 78) (v := ?_) (a' := ?_) (bA 11 183) rfl rfl (any_of HT_.out (by kernel_rfl)) (fun _ _ _ h => h) (Or.inl ⟨by rfl, ?_⟩) ?_ ?_; rotate_left
            · intro w'; go_simp; with_reducible rfl
            rotate_left
            · simp only [ap]; rfl
            refine take_ (i := 3) (N := some 74) (v := ?_) (a' := ?_) (bA 11 191) rfl rfl (take_ofW HT_.out HW_.out (by kernel_rfl)) (fun _ _ _ h => h) (Or.inl ⟨by rfl, ?_⟩) hHeld ?_ ?_; rotate_left
            · rintro w' ⟨s0, s1, s2, s3, s4, s5, s6, s7, s8, s9, s10, s11, s12, s13⟩; go_simp; with_reducible rfl
            rotate_left
            · simp only [ap]; rfl
            refine take_ (i := 6) (N := some 77) (v := ?_) (a' := ?_) (bA 11 255) rfl rfl (take_ofW HT_.out HW_.out (by kernel_rfl)) (fun _ _ _ h => h) (Or.inl ⟨by rfl, ?_⟩) hHeld ?_ ?_; rotate_left
            · rintro w' ⟨s0, s1, s2, s3, s4, s5, s6, s7, s8, s9, s10, s11, s12, s13⟩; go_simp; with_reducible rfl
            rotate_left
            · simp only [ap]; rfl
            refine one_ (i := 8) (N := some 79) (bA 11 511) rfl rfl (one_of HT_.out (by kernel_rfl)) (by decide) (fun K hK => ?_); refine goes_ Tryz.func62 (by kernel_rfl) rfl #[.string a0, .agg #[.int .i64 ((rd_T25 x7_2 0).f0.f0), .int .i64 ((rd_T25 x7_2 0).f0.f1), .int .i64 ((rd_T25 x7_2 0).f1.f0), .int .i64 ((rd_T25 x7_2 0).f1.f1), .int .i64 ((rd_T25 x7_2 0).f2), .bool ((rd_T25 x7_2 0).f3), .bool ((rd_T25 x7_2 0).f4)], .agg #[.int .i64 ((rd_T25 x7_2 1).f0.f0), .int .i64 ((rd_T25 x7_2 1).f0.f1), .int .i64 ((rd_T25 x7_2 1).f1.f0), .int .i64 ((rd_T25 x7_2 1).f1.f1), .int .i64 ((rd_T25 x7_2 1).f2), .bool ((rd_T25 x7_2 1).f3), .bool ((rd_T25 x7_2 1).f4)], .bool x8_2] (by rfl) rfl rfl (by (try simp only [mp]); first | done | rfl | (simp only [ld]; rfl)) ?_; (with_reducible refine (span_binary.calls k2 a0 ((rd_T25 x7_2 0).f0.f0) ((rd_T25 x7_2 0).f0.f1) ((rd_T25 x7_2 0).f1.f0) ((rd_T25 x7_2 0).f1.f1) ((rd_T25 x7_2 0).f2) ((rd_T25 x7_2 0).f3) ((rd_T25 x7_2 0).f4) ((rd_T25 x7_2 1).f0.f0) ((rd_T25 x7_2 1).f0.f1) ((rd_T25 x7_2 1).f1.f0) ((rd_T25 x7_2 1).f1.f1) ((rd_T25 x7_2 1).f2) ((rd_T25 x7_2 1).f3) ((rd_T25 x7_2 1).f4) x8_2 t931 t932 t933 t934 t935 t936 t937 _ A72.out).mono ?_); rintro e w75 ⟨rfl, hb⟩; refine ⟨_, rfl, ?_⟩; replace HBW := hs HBW hb; clear hb; refine hK.out _ _ (hc8 HBW.out (hs6 HBW.out) hH0) (fun hHeld => ?_); clear hK K; refine norm_ (a' := ?_) ?_ ?_; rotate_left
            · (show Act.put _ (some 79) _ = _); simp only [ap]; rfl
            replace HO_7 := Aside0.mk (Kd.R_below HO_7.out HBW.out); replace BK890 := kb BK890 HBW.out; replace HB := hs HB HBW.out; refine one_ (i := 9) (N := none) (bA 11 1023) rfl rfl (one_of HT_.out (by kernel_rfl)) (by decide) (fun K hK => ?_); have hs76 : w75.cell? ⟨gb890, 0, none⟩ = some (.int .i64 0) := (blk_cell BK890.out 0).trans rfl; have hfs76 := blk_frozen BK890.out 0; have hs77 : w75.cell? ⟨gb890, 1, none⟩ = some (.int .i64 0) := (blk_cell BK890.out 1).trans rfl; have hfs77 := blk_frozen BK890.out 1; have hs78 : w75.cell? ⟨gb890, 2, none⟩ = some (.int .i64 0) := (blk_cell BK890.out 2).trans rfl; have hfs78 := blk_frozen BK890.out 2; have hs79 : w75.cell? ⟨gb890, 3, none⟩ = some (.int .i64 0) := (blk_cell BK890.out 3).trans rfl; have hfs79 := blk_frozen BK890.out 3; have hs80 : w75.cell? ⟨gb890, 4, none⟩ = some (.int .i64 0) := (blk_cell BK890.out 4).trans rfl; have hfs80 := blk_frozen BK890.out 4; have hs81 : w75.cell? ⟨gb890, 5, none⟩ = some (.bool false) := (blk_cell BK890.out 5).trans rfl; have hfs81 := blk_frozen BK890.out 5; have hs82 : w75.cell? ⟨gb890, 6, none⟩ = some (.bool false) := (blk_cell BK890.out 6).trans rfl; have hfs82 := blk_frozen BK890.out 6; refine skip_ (w1 := ?_) (by rfl) rfl ?_ ?_; rotate_left
            · go_simp; rfl
            have hfr0_ := Kd.own_blk (Kd.R_away HO_7.out (fun _ hk => hk)); refine hK.out _ _ ⟨(cf7 (by first | exact hfr0_ | (rw [add_block]; exact hfr0_) | (show (Addr.add _ _).block ≠ _; rw [add_block]; exact hfr0_) | (dsimp only; exact hfr0_)) hHeld.1), (cf7 (by first | exact hfr0_ | (rw [add_block]; exact hfr0_) | (show (Addr.add _ _).block ≠ _; rw [add_block]; exact hfr0_) | (dsimp only; exact hfr0_)) hHeld.2.1), (cf7 (by first | exact hfr0_ | (rw [add_block]; exact hfr0_) | (show (Addr.add _ _).block ≠ _; rw [add_block]; exact hfr0_) | (dsimp only; exact hfr0_)) hHeld.2.2.1), (cf7 (by first | exact hfr0_ | (rw [add_block]; exact hfr0_) | (show (Addr.add _ _).block ≠ _; rw [add_block]; exact hfr0_) | (dsimp only; exact hfr0_)) hHeld.2.2.2.1), (cf7 (by first | exact hfr0_ | (rw [add_block]; exact hfr0_) | (show (Addr.add _ _).block ≠ _; rw [add_block]; exact hfr0_) | (dsimp only; exact hfr0_)) hHeld.2.2.2.2.1), (cf7 (by first | exact hfr0_ | (rw [add_block]; exact hfr0_) | (show (Addr.add _ _).block ≠ _; rw [add_block]; exact hfr0_) | (dsimp only; exact hfr0_)) hHeld.2.2.2.2.2.1), (cf7 (by first | exact hfr0_ | (rw [add_block]; exact hfr0_) | (show (Addr.add _ _).block ≠ _; rw [add_block]; exact hfr0_) | (dsimp only; exact hfr0_)) hHeld.2.2.2.2.2.2.1), (cf7 (by first | exact hfr0_ | (rw [add_block]; exact hfr0_) | (show (Addr.add _ _).block ≠ _; rw [add_block]; exact hfr0_) | (dsimp only; exact hfr0_)) hHeld.2.2.2.2.2.2.2.1), (cf7 (by first | exact hfr0_ | (rw [add_block]; exact hfr0_) | (show (Addr.add _ _).block ≠ _; rw [add_block]; exact hfr0_) | (dsimp only; exact hfr0_)) hHeld.2.2.2.2.2.2.2.2.1), (cf7 (by first | exact hfr0_ | (rw [add_block]; exact hfr0_) | (show (Addr.add _ _).block ≠ _; rw [add_block]; exact hfr0_) | (dsimp only; exact hfr0_)) hHeld.2.2.2.2.2.2.2.2.2.1), (cf7 (by first | exact hfr0_ | (rw [add_block]; exact hfr0_) | (show (Addr.add _ _).block ≠ _; rw [add_block]; exact hfr0_) | (dsimp only; exact hfr0_)) hHeld.2.2.2.2.2.2.2.2.2.2.1), (cf7 (by first | exact hfr0_ | (rw [add_block]; exact hfr0_) | (show (Addr.add _ _).block ≠ _; rw [add_block]; exact hfr0_) | (dsimp only; exact hfr0_)) hHeld.2.2.2.2.2.2.2.2.2.2.2.1), (cf7 (by first | exact hfr0_ | (rw [add_block]; exact hfr0_) | (show (Addr.add _ _).block ≠ _; rw [add_block]; exact hfr0_) | (dsimp only; exact hfr0_)) hHeld.2.2.2.2.2.2.2.2.2.2.2.2.1), (cf7 (by first | exact hfr0_ | (rw [add_block]; exact hfr0_) | (show (Addr.add _ _).block ≠ _; rw [add_block]; exact hfr0_) | (dsimp only; exact hfr0_)) hHeld.2.2.2.2.2.2.2.2.2.2.2.2.2)⟩ (fun hHeld => ?_); clear hfr0_; clear hK K; refine pure_ (i := 10) (N := some 5) (v := ?_) (a' := ?_) (bA 11 2047) rfl rfl (any_of HT_.out (by kernel_rfl)) (fun _ _ _ h => h) (Or.inl ⟨by rfl, ?_⟩) ?_ ?_; rotate_left
            · intro w'; go_simp; with_reducible rfl
            rotate_left
            · simp only [ap]; rfl
            refine done_ (done_of HT_.out (by kernel_rfl)) ?_; clear HBW hH0; (try go_wp2); refine bodyPost_ret (results_ct rfl _ _ gb890 25 #[.int .i64 t931, .int .i64 t932, .int .i64 t933, .int .i64 t934, .int .i64 t935, .bool t936, .bool t937] (0, 0) _ rfl (by exact rq BK890.out (by rfl)) Tryz.underlying25 rfl (by kernel_rfl)) rfl ?_; exact en_
           · rw [if_neg c71] at H; exact absurd H (by simp)
          · rw [if_neg c70] at H; exact absurd H (by simp)
def serinettelaw03_awake.f (k : Nat)  : Option (Bool) := (serinetteref01_Whole.f k 0).bind fun bt938 => ((serinetteref01_Whole.f k 1).bind fun bt940 => ((span_Make.f k bt938.1 bt938.2 bt940.1 bt940.2 2).bind fun bt942 => ((serinetteref01_Whole.f k 0).bind fun bt950 => ((serinetteref01_Whole.f k 1).bind fun bt952 => ((span_Make.f k bt950.1 bt950.2 bt952.1 bt952.2 3).bind fun bt954 => ((span_Op.f k (⟨#[97, 100, 100]⟩ : ByteArray) (([(⟨(⟨bt942.1, bt942.2.1⟩ : S23), (⟨bt942.2.2.1, bt942.2.2.2.1⟩ : S23), bt942.2.2.2.2.1, bt942.2.2.2.2.2.1, bt942.2.2.2.2.2.2⟩ : S25), (⟨(⟨bt954.1, bt954.2.1⟩ : S23), (⟨bt954.2.2.1, bt954.2.2.2.1⟩ : S23), bt954.2.2.2.2.1, bt954.2.2.2.2.2.1, bt954.2.2.2.2.2.2⟩ : S25)] : List (S25)))).bind fun bt965 => (if bt965.2.2.2.2.2.2.2 = 0 then ((span_Text.f k bt965.1 bt965.2.1 bt965.2.2.1 bt965.2.2.2.1 bt965.2.2.2.2.1 bt965.2.2.2.2.2.1 bt965.2.2.2.2.2.2.1).bind fun t974 => (if t974.toList = ([91, 48, 44, 50, 93, 47, 54] : List UInt8) then ((span_Has.f k bt965.1 bt965.2.1 bt965.2.2.1 bt965.2.2.2.1 bt965.2.2.2.2.1 bt965.2.2.2.2.2.1 bt965.2.2.2.2.2.2.1 5 6).bind fun t975 => (if t975 = true then ((span_Has.f k bt965.1 bt965.2.1 bt965.2.2.1 bt965.2.2.2.1 bt965.2.2.2.2.1 bt965.2.2.2.2.2.1 bt965.2.2.2.2.2.2.1 5 4).bind fun t976 => (some (!t976))) else (none))) else (none))) else (none))))))))
theorem serinettelaw03_awake.mono : ∀ k, LeO (serinettelaw03_awake.f k ) (serinettelaw03_awake.f (k + 1) ) := by
 intro  k
 unfold serinettelaw03_awake.f
 repeat' first
   | (with_reducible exact serinetteref01_Whole.mono _ _)
   | (with_reducible exact span_Has.mono _ _ _ _ _ _ _ _ _ _)
   | (with_reducible exact span_Make.mono _ _ _ _ _ _)
   | (with_reducible exact span_Op.mono _ _ _)
   | (with_reducible exact span_Text.mono _ _ _ _ _ _ _ _)
   | (with_reducible exact LeO.refl _)
   | (with_reducible exact LeO.none _)
   | (with_reducible refine LeO.ite ?_ ?_)
   | (with_reducible refine LeO.bind ?_ (fun _ => ?_))
   | exact serinetteref01_Whole.mono _ _
   | exact span_Has.mono _ _ _ _ _ _ _ _ _ _
   | exact span_Make.mono _ _ _ _ _ _
   | exact span_Op.mono _ _ _
   | exact span_Text.mono _ _ _ _ _ _ _ _
   | exact LeO.none _
   | refine LeO.ite ?_ ?_
   | refine LeO.bind ?_ (fun _ => ?_)
end Go.Proofs.YtlibjgmnookakaaGreatDoor.SSpanSays
