/- Parts of the proof of SpanNests, joined by program out of this session's own texts. -/
import Derived.Test.YtlibjgmnookakaaDoorZP4
set_option linter.unusedVariables false
set_option linter.unusedSimpArgs false
namespace Go.Proofs.YtlibjgmnookakaaDoor.SSpanNests
open Go.RowKit Go.Proofs.YtlibjgmnookakaaDoor.Wd.PrintWords Go.Proofs.YtlibjgmnookakaaDoor.Wd.PrintLast Go.Proofs.YtlibjgmnookakaaDoor.Wd.PrintMore
attribute [local go_sem] max2_int min2_int max_two min_two max_three min_three max_four min_four
attribute [local go_sem] max2_int min2_int max_two min_two max_three min_three max_four min_four
attribute [local go_sem] max2_int min2_int max_two min_two max_three min_three max_four min_four
attribute [local go_sem high] eqA23
attribute [local go_sem high] eqA25
def span_binary.f (k : Nat) (a0 : ByteArray) (a1_0 : Int) (a1_1 : Int) (a1_2 : Int) (a1_3 : Int) (a1_4 : Int) (a1_5 : Bool) (a1_6 : Bool) (a2_0 : Int) (a2_1 : Int) (a2_2 : Int) (a2_3 : Int) (a2_4 : Int) (a2_5 : Bool) (a2_6 : Bool) (a3 : Bool) : Option (Int × Int × Int × Int × Int × Bool × Bool) := if a0.toList = ([97, 100, 100] : List UInt8) then span_sum.f k a1_0 a1_1 a1_2 a1_3 a1_4 a1_5 a1_6 a2_0 a2_1 a2_2 a2_3 a2_4 a2_5 a2_6 a3 else none
theorem span_binary.mono : ∀ a0 a1_0 a1_1 a1_2 a1_3 a1_4 a1_5 a1_6 a2_0 a2_1 a2_2 a2_3 a2_4 a2_5 a2_6 a3 k, LeO (span_binary.f k a0 a1_0 a1_1 a1_2 a1_3 a1_4 a1_5 a1_6 a2_0 a2_1 a2_2 a2_3 a2_4 a2_5 a2_6 a3) (span_binary.f (k + 1) a0 a1_0 a1_1 a1_2 a1_3 a1_4 a1_5 a1_6 a2_0 a2_1 a2_2 a2_3 a2_4 a2_5 a2_6 a3) := by
  intro a0 a1_0 a1_1 a1_2 a1_3 a1_4 a1_5 a1_6 a2_0 a2_1 a2_2 a2_3 a2_4 a2_5 a2_6 a3 k
  unfold span_binary.f
  exact LeO.ite (span_sum.mono _ _ _ _ _ _ _ _ _ _ _ _ _ _ _ _) (LeO.refl _)
theorem span_binary.calls (k : Nat) (a0 : ByteArray) (a1_0 : Int) (a1_1 : Int) (a1_2 : Int) (a1_3 : Int) (a1_4 : Int) (a1_5 : Bool) (a1_6 : Bool) (a2_0 : Int) (a2_1 : Int) (a2_2 : Int) (a2_3 : Int) (a2_4 : Int) (a2_5 : Bool) (a2_6 : Bool) (a3 : Bool) (r1 : Int) (r2 : Int) (r3 : Int) (r4 : Int) (r5 : Int) (r6 : Bool) (r7 : Bool) (w : World) (h : span_binary.f k a0 a1_0 a1_1 a1_2 a1_3 a1_4 a1_5 a1_6 a2_0 a2_1 a2_2 a2_3 a2_4 a2_5 a2_6 a3 = some (r1, r2, r3, r4, r5, r6, r7)) :
    Calls Tryd.prog 39 #[.string a0, .agg #[.int .i64 a1_0, .int .i64 a1_1, .int .i64 a1_2, .int .i64 a1_3, .int .i64 a1_4, .bool a1_5, .bool a1_6], .agg #[.int .i64 a2_0, .int .i64 a2_1, .int .i64 a2_2, .int .i64 a2_3, .int .i64 a2_4, .bool a2_5, .bool a2_6], .bool a3] w fun e w' => e = .returned (.agg #[.int .i64 r1, .int .i64 r2, .int .i64 r3, .int .i64 r4, .int .i64 r5, .bool r6, .bool r7]) ∧ Below w.heap.size w w' := by
  unfold span_binary.f at h
  by_cases h0 : a0.toList = ([97, 100, 100] : List UInt8)
  rotate_left
  · rw [if_neg h0] at h; cases h
  rw [if_pos h0] at h
  have HS := Aside0.mk h
  have c0 : (a0.toList == ([97, 100, 100] : List UInt8)) = true := beq_iff_eq.mpr h0
  clear h h0
  have hu25 := Tryd.underlying25
  have HB := Aside0.mk (Below.refl w.heap.size w)
  go_enter Tryd.func39, Tryd.ntmps39
  go_upto_region 3 with (first | ((with_reducible refine gate_dst (N := 5) rfl ?_); refine box_event ?hg (N := 5) ?hd (cs := #[.int .i64 a1_0, .int .i64 a1_1, .int .i64 a1_2, .int .i64 a1_3, .int .i64 a1_4, .bool a1_5, .bool a1_6]) (t := 25) ?hr ?_; (case hd => rfl); (case hg => rfl); (case hr => first | (go_simp; done) | (go_simp; rfl)); intro ga hg wga hbox hb; have BKga := Aside0.mk (hbox); have GEga := hz_ hg HB; replace HB := hs HB hb; clear hb hbox hg) | ((with_reducible refine gate_dst (N := 6) rfl ?_); refine box_event ?hg (N := 6) ?hd (cs := #[.int .i64 a2_0, .int .i64 a2_1, .int .i64 a2_2, .int .i64 a2_3, .int .i64 a2_4, .bool a2_5, .bool a2_6]) (t := 25) ?hr ?_; (case hd => rfl); (case hg => rfl); (case hr => first | (go_simp; done) | (go_simp; rfl)); intro gb hg wgb hbox hb; have BKgb := Aside0.mk (hbox); have GEgb := hz_ hg HB; replace BKga := kb BKga hb; replace HB := hs HB hb; clear hb hbox hg) | ((with_reducible refine gate_dst (N := 8) rfl ?_); refine box_event ?hg (N := 8) ?hd (cs := #[.int .i64 0, .int .i64 0, .int .i64 0, .int .i64 0, .int .i64 0, .bool false, .bool false]) (t := 25) ?hr ?_; (case hd => rfl); (case hg => rfl); (case hr => first | (go_simp; done) | (go_simp; rfl)); intro gr hg wgr hbox hb; have BKgr := Aside0.mk (hbox); have GEgr := hz_ hg HB; replace BKga := kb BKga hb; replace BKgb := kb BKgb hb; replace HB := hs HB hb; clear hb hbox hg))
  obtain ⟨p0, p1, p2, p3, p4, p5, p6⟩ := bc7 BKga.out
  obtain ⟨q0, q1, q2, q3, q4, q5, q6⟩ := bc7 BKgb.out
  obtain ⟨z0, z1, z2, z3, z4, z5, z6⟩ := bc7 BKgr.out
  obtain ⟨y0, y1, y2, y3, y4, y5, y6⟩ := bf7 BKgr.out
  go_wp2_with (first | ((with_reducible refine gate_callee (f := 56) rfl ?_); refine goesL_ (some 15) rfl rfl Tryd.func56 (by kernel_rfl) rfl #[.agg #[.int .i64 a1_0, .int .i64 a1_1, .int .i64 a1_2, .int .i64 a1_3, .int .i64 a1_4, .bool a1_5, .bool a1_6], .agg #[.int .i64 a2_0, .int .i64 a2_1, .int .i64 a2_2, .int .i64 a2_3, .int .i64 a2_4, .bool a2_5, .bool a2_6], .bool a3] rfl (by (try simp only [mp]); first | done | rfl | (simp only [ld]; rfl)) ?_; (with_reducible refine (span_sum.calls k _ _ _ _ _ _ _ _ _ _ _ _ _ _ _ _ _ _ _ _ _ _ _ HS.out).mono ?_); rintro e w1 ⟨rfl, hb⟩; refine ⟨_, rfl, ?_⟩; replace BKgr := kb BKgr hb; replace HB := hs HB hb; clear hb; clear z0 z1 z2 z3 z4 z5 z6 y0 y1 y2 y3 y4 y5 y6; obtain ⟨z0, z1, z2, z3, z4, z5, z6⟩ := bc7 BKgr.out; obtain ⟨y0, y1, y2, y3, y4, y5, y6⟩ := bf7 BKgr.out))
  refine bodyPost_ret (results_cell_row rfl _ _ gr 25 #[.int .i64 r1, .int .i64 r2, .int .i64 r3, .int .i64 r4, .int .i64 r5, .bool r6, .bool r7] (0, 0) _ rfl (by exact rq BKgr.out (by rfl)) Tryd.underlying25 rfl (by kernel_rfl)) rfl ?_
  exact ⟨rfl, by repeat first | (with_reducible exact HB.out) | refine bl1 ?_ | (with_reducible refine bset ?_ ‹_›) | exact HB.out⟩
def strconv_FormatInt_68.f (a0 : Int) (a1 : Int) : Option (ByteArray) := if a1 = 10 then (if 0 ≤ a0 ∧ a0 < 100 then strconv_small.f a0 else none) else none
theorem strconv_FormatInt_68.calls (a0 : Int) (a1 : Int) (r : ByteArray) (w : World) (h : strconv_FormatInt_68.f a0 a1 = some r) :
    Calls Tryd.prog 68 #[.int .i64 a0, .int .i64 a1] w fun e w' => e = .returned (.string r) ∧ Drawn0 w w' := by
  unfold strconv_FormatInt_68.f at h
  by_cases h0 : a1 = 10
  rotate_left
  · rw [if_neg h0] at h; cases h
  rw [if_pos h0] at h
  by_cases h1 : 0 ≤ a0 ∧ a0 < 100
  rotate_left
  · rw [if_neg h1] at h; cases h
  rw [if_pos h1] at h
  obtain ⟨h1, h2⟩ := h1
  subst h0
  have HS := Aside0.mk h
  clear h
  have d0 : decide (0 ≤ a0) = true := decide_eq_true h1
  have d1 : decide (a0 < 100) = true := decide_eq_true h2
  clear h1 h2
  go_enter Tryd.func68, Tryd.ntmps68
  go_wp2_with (first | (go_at_call 79; refine (strconv_small.calls a0 r _ HS.out).mono ?_; rintro e w1 ⟨rfl, ⟨nd, rfl⟩⟩))
  go_ret
  exact ⟨rfl, by repeat (first | exact Drawn0.refl _ | apply Drawn0.step)⟩
mutual
def span_Op.j0 : Nat → ByteArray → List (S25) → Int → Bool → Option (Int × Int × Int × Int × Int × Bool × Bool × Int)
 | 0, _, _, _, _ => none
 | k + 1, x0, x1, x6, x21 => if x21 = true then (none) else (span_Op.l0 k x0 x6 ([] : List (S25)) false false x1 (x1.length : Int) 0)
def span_Op.l0 : Nat → ByteArray → Int → List (S25) → Bool → Bool → List (S25) → Int → Int → Option (Int × Int × Int × Int × Int × Bool × Bool × Int)
 | 0, _, _, _, _, _, _, _, _ => none
 | k + 1, x0, x6, x7, x8, x9, x23, x24, x25 => if x25 < x24 then (if 0 ≤ x25 then (if x25 < (x23.length : Int) then ((span_valid.f k ((rd_T25 x23 x25).f0.f0) ((rd_T25 x23 x25).f0.f1) ((rd_T25 x23 x25).f1.f0) ((rd_T25 x23 x25).f1.f1) ((rd_T25 x23 x25).f2) ((rd_T25 x23 x25).f3) ((rd_T25 x23 x25).f4)).bind fun bt540 => (if x7.length < 2932031007402 then ((some (x7 ++ [(⟨(⟨bt540.1, bt540.2.1⟩ : S23), (⟨bt540.2.2.1, bt540.2.2.2.1⟩ : S23), bt540.2.2.2.2.1, bt540.2.2.2.2.2.1, bt540.2.2.2.2.2.2⟩ : S25)] : List (S25))).bind fun y547 => (if x8 = true then (none) else (if x9 = true then (none) else (span_Op.l0 k x0 x6 y547 bt540.2.2.2.2.2.1 bt540.2.2.2.2.2.2 x23 x24 (wrap64 (x25 + 1)))))) else (none))) else (none)) else (none)) else (if x6 = 3 then (none) else (if x9 = true then (none) else (if x6 = 1 then (none) else (if 0 < (x7.length : Int) then (if 1 < (x7.length : Int) then ((span_binary.f k x0 ((rd_T25 x7 0).f0.f0) ((rd_T25 x7 0).f0.f1) ((rd_T25 x7 0).f1.f0) ((rd_T25 x7 0).f1.f1) ((rd_T25 x7 0).f2) ((rd_T25 x7 0).f3) ((rd_T25 x7 0).f4) ((rd_T25 x7 1).f0.f0) ((rd_T25 x7 1).f0.f1) ((rd_T25 x7 1).f1.f0) ((rd_T25 x7 1).f1.f1) ((rd_T25 x7 1).f2) ((rd_T25 x7 1).f3) ((rd_T25 x7 1).f4) x8).bind fun bt577 => (some (bt577.1, bt577.2.1, bt577.2.2.1, bt577.2.2.2.1, bt577.2.2.2.2.1, bt577.2.2.2.2.2.1, bt577.2.2.2.2.2.2, 0))) else (none)) else (none)))))
end
def span_Op.f (k : Nat) (a0 : ByteArray) (l1 : List (S25)) : Option (Int × Int × Int × Int × Int × Bool × Bool × Int) := (span_arity.f k a0).bind fun t537 => (if t537 = 0 then (none) else (span_Op.j0 k a0 l1 t537 ((l1.length : Int) != t537)))
theorem span_Op.mono_l : ∀ k, (∀ y0 y1 y2 y3, LeO (span_Op.j0 k y0 y1 y2 y3) (span_Op.j0 (k + 1) y0 y1 y2 y3)) ∧ (∀ y0 y1 y2 y3 y4 y5 y6 y7, LeO (span_Op.l0 k y0 y1 y2 y3 y4 y5 y6 y7) (span_Op.l0 (k + 1) y0 y1 y2 y3 y4 y5 y6 y7))
 | 0 => ⟨fun _ _ _ _ r h => by simp [span_Op.j0] at h, fun _ _ _ _ _ _ _ _ r h => by simp [span_Op.l0] at h⟩
 | k + 1 => by
  obtain ⟨ih0, ih1⟩ := span_Op.mono_l k
  refine ⟨?_, ?_⟩
  ·
   intro y0 y1 y2 y3
   unfold span_Op.j0
   repeat' first
   | (with_reducible exact ih0 _ _ _ _)
   | (with_reducible exact ih1 _ _ _ _ _ _ _ _)
   | (with_reducible exact span_arity.mono _ _)
   | (with_reducible exact span_binary.mono _ _ _ _ _ _ _ _ _ _ _ _ _ _ _ _ _)
   | (with_reducible exact span_valid.mono _ _ _ _ _ _ _ _)
   | (with_reducible exact LeO.refl _)
   | (with_reducible exact LeO.none _)
   | (with_reducible refine LeO.ite ?_ ?_)
   | (with_reducible refine LeO.bind ?_ (fun _ => ?_))
   | exact ih0 _ _ _ _
   | exact ih1 _ _ _ _ _ _ _ _
   | exact span_arity.mono _ _
   | exact span_binary.mono _ _ _ _ _ _ _ _ _ _ _ _ _ _ _ _ _
   | exact span_valid.mono _ _ _ _ _ _ _ _
   | exact LeO.none _
   | refine LeO.ite ?_ ?_
   | refine LeO.bind ?_ (fun _ => ?_)
  ·
   intro y0 y1 y2 y3 y4 y5 y6 y7
   unfold span_Op.l0
   repeat' first
   | (with_reducible exact ih0 _ _ _ _)
   | (with_reducible exact ih1 _ _ _ _ _ _ _ _)
   | (with_reducible exact span_arity.mono _ _)
   | (with_reducible exact span_binary.mono _ _ _ _ _ _ _ _ _ _ _ _ _ _ _ _ _)
   | (with_reducible exact span_valid.mono _ _ _ _ _ _ _ _)
   | (with_reducible exact LeO.refl _)
   | (with_reducible exact LeO.none _)
   | (with_reducible refine LeO.ite ?_ ?_)
   | (with_reducible refine LeO.bind ?_ (fun _ => ?_))
   | exact ih0 _ _ _ _
   | exact ih1 _ _ _ _ _ _ _ _
   | exact span_arity.mono _ _
   | exact span_binary.mono _ _ _ _ _ _ _ _ _ _ _ _ _ _ _ _ _
   | exact span_valid.mono _ _ _ _ _ _ _ _
   | exact LeO.none _
   | refine LeO.ite ?_ ?_
   | refine LeO.bind ?_ (fun _ => ?_)
theorem span_Op.mono : ∀ a0 a1 k, LeO (span_Op.f k a0 a1) (span_Op.f (k + 1) a0 a1) := by
 intro a0 a1 k
 obtain ⟨ih0, ih1⟩ := span_Op.mono_l k
 unfold span_Op.f
 repeat' first
   | (with_reducible exact ih0 _ _ _ _)
   | (with_reducible exact ih1 _ _ _ _ _ _ _ _)
   | (with_reducible exact span_arity.mono _ _)
   | (with_reducible exact span_binary.mono _ _ _ _ _ _ _ _ _ _ _ _ _ _ _ _ _)
   | (with_reducible exact span_valid.mono _ _ _ _ _ _ _ _)
   | (with_reducible exact LeO.refl _)
   | (with_reducible exact LeO.none _)
   | (with_reducible refine LeO.ite ?_ ?_)
   | (with_reducible refine LeO.bind ?_ (fun _ => ?_))
   | exact ih0 _ _ _ _
   | exact ih1 _ _ _ _ _ _ _ _
   | exact span_arity.mono _ _
   | exact span_binary.mono _ _ _ _ _ _ _ _ _ _ _ _ _ _ _ _ _
   | exact span_valid.mono _ _ _ _ _ _ _ _
   | exact LeO.none _
   | refine LeO.ite ?_ ?_
   | refine LeO.bind ?_ (fun _ => ?_)
def span_Op.T11 : Bool × List (List Nat × List Nat) := (true, [([], []), ([0], [0]), ([1], [1]), ([2, 1], [1, 2]), ([1, 3], [1, 3]), ([], []), ([5, 1], [5]), ([6], [6]), ([7, 6], [6, 7]), ([6, 8], [6, 8]), ([4, 6, 0, 1, 2, 3, 4], [0, 4]), ([9, 10, 0, 1, 2, 3, 4, 5, 6, 7, 8, 9, 10], [5, 9])])
def span_Op.B11 : List Nat := [0, 1, 3, 7, 15, 0, 35, 99, 227, 483, 127, 2047]
theorem span_Op.tab11 : rtab .any (opsOf Tryd.f22 11) = span_Op.T11 := by kernel_rfl
theorem span_Op.bits11 : waitsOk span_Op.T11.2 span_Op.B11 = true := by kernel_rfl
def span_Op.T19 : Bool × List (List Nat × List Nat) := (true, [([], []), ([], []), ([1], [1]), ([2], [2]), ([], []), ([4], [4]), ([5], [5]), ([], []), ([0, 3, 6, 7], [0, 3, 6, 7]), ([8, 8, 0, 1, 2, 3, 4, 5, 6, 7, 8], [8]), ([9, 0, 1, 2, 3, 4, 5, 6, 7, 8, 9], [])])
def span_Op.B19 : List Nat := [0, 0, 2, 6, 0, 16, 48, 0, 255, 511, 1023]
theorem span_Op.tab19 : rtab .any (opsOf Tryd.f22 19) = span_Op.T19 := by kernel_rfl
theorem span_Op.bits19 : waitsOk span_Op.T19.2 span_Op.B19 = true := by kernel_rfl
set_option maxHeartbeats 8000000 in
set_option maxRecDepth 100000 in
theorem span_Op.calls (k : Nat) (a0 : ByteArray) (A1 : Option Addr) (c1 : Nat) (l1 : List (S25)) (r1 : Int) (r2 : Int) (r3 : Int) (r4 : Int) (r5 : Int) (r6 : Bool) (r7 : Bool) (r8 : Int) (w : World) (hr1 : Kd.C k25 w A1 l1.length l1) (hc1 : l1.length ≤ c1) (h : span_Op.f k a0 l1 = some (r1, r2, r3, r4, r5, r6, r7, r8)) :
  Calls Tryd.prog 22 #[.string a0, .slice A1 l1.length c1] w fun e w' => e = .returned (.tuple #[.agg #[.int .i64 r1, .int .i64 r2, .int .i64 r3, .int .i64 r4, .int .i64 r5, .bool r6, .bool r7], .int .i64 r8]) ∧ Below w.heap.size w w' := by
 have hu25 := Tryd.underlying25; have HR1 := Aside0.mk hr1; have HC1 := Aside0.mk hc1; clear hr1 hc1; have HB := Aside0.mk (Below.refl w.heap.size w); have H : ((span_arity.f k a0).bind fun t537 => (if t537 = 0 then (none) else (span_Op.j0 k a0 l1 t537 ((l1.length : Int) != t537)))) = some (r1, r2, r3, r4, r5, r6, r7, r8) := h; clear h; replace H := Option.bind_eq_some_iff.mp H; obtain ⟨t537, A30, H⟩ := H; (try dsimp only at H); have A3 := Aside0.mk A30; clear A30; have HC4 := Aside0.mk H; clear H; go_enter Tryd.func22, Tryd.ntmps22; go_upto_region 2 with (first | ((with_reducible refine gate_dst (N := 4) rfl ?_); (try (refine gate_guard (by rfl) ?_; dsimp only)); refine box_event ?hg (N := 4) ?hd (cs := #[.int .i64 0, .int .i64 0, .int .i64 0, .int .i64 0, .int .i64 0, .bool false, .bool false]) (t := 25) ?hr ?_; (case hd => rfl); (case hg => rfl); (case hr => first | (go_simp; done) | (go_simp; rfl)); intro gb536 hg w5 hbox hb; have BK536 := Aside0.mk (hbox); have GW536 := hz_ hg HB; have GE536 := hz_ hg HB; replace HB := hs HB hb; clear hb hbox hg) | ((with_reducible refine gate_callee (f := 36) rfl ?_); refine goesL_ (some 13) rfl rfl Tryd.func36 (by kernel_rfl) rfl #[.string a0] rfl (by (try simp only [mp]); first | done | rfl | (simp only [ld]; rfl)) ?_; (with_reducible refine (span_arity.calls k a0 t537 _ A3.out).mono ?_); rintro e w' ⟨rfl, ⟨nd, rfl⟩⟩; refine ⟨_, rfl, ?_⟩)); (try simp only [Act.put, List.setIfInBounds_toArray, List.set_cons_zero, List.set_cons_succ])
 go_cut [21] (fun v21 wc => ∃ (kq : Nat) (x21_3 : Bool), v21 = .bool x21_3 ∧ Aside0 (span_Op.j0 kq a0 l1 t537 x21_3 = some (r1, r2, r3, r4, r5, r6, r7, r8)) ∧ Aside0 (kq ≤ k) ∧ Aside0 (wc.heap[gb536]? = some (.cells #[.int .i64 0, .int .i64 0, .int .i64 0, .int .i64 0, .int .i64 0, .bool false, .bool false] 25 (0, 0))) ∧ Aside0 (Below w.heap.size w wc))
 case first =>
  have H := HC4.out; clear HC4; by_cases c6 : t537 = 0
  · rw [if_pos c6] at H; cases H
  ·
   rw [if_neg c6] at H; have c6b0 : (t537 == 0) = false := beq_eq_false_iff_ne.mpr c6; have c6b1 : (t537 != 0) = true := bne_iff_ne.mpr c6; (first | rw [c6b0] | (simp only [i64_w, i32_w]; rw [c6b0]) | skip); have H' := Aside0.mk H; clear H; go_wp2; go_meet
   case rel => exact ⟨_, (((l1.length : Int) != t537)), (by first | rfl | (simp; done) | (simp [*]; done)), H', ⟨by first | omega | exact Nat.le_refl _⟩, ⟨by refine bk ?_; exact BK536.out⟩, ⟨by repeat first | (with_reducible exact HB.out) | (with_reducible refine bset ?_ ‹_›) | refine bl1 ?_ | exact HB.out⟩⟩
 case rest =>
  clear HC4; (try clear c1); (try clear c2); (try clear p2); (try clear c3); (try clear c6); (try clear c6b0); (try clear c6b1); obtain ⟨kq, x21_3, rfl, HA, HJ3, BK536, HB⟩ := hcut; cases kq with
  | zero => exact absurd HA.out (by simp [span_Op.j0])
  | succ kj3 =>
   have H := HA.out; clear HA; simp only [span_Op.j0] at H; by_cases c7 : x21_3 = true
   · subst c7; rw [if_pos rfl] at H; cases H
   ·
    replace c7 := Bool.eq_false_iff.mpr c7; subst c7; rw [if_neg (show ¬ (false = true) by decide)] at H; have H' := Aside0.mk H; clear H; go_wp2
    go_loopg [7, 8, 9, 25] kj3 (fun kq v7 v8 v9 v25 w' => ∃ (x7_2 : List (S25)) (x8_2 : Bool) (x9_2 : Bool) (x25_2 : Int), v8 = .bool x8_2 ∧ v9 = .bool x9_2 ∧ v25 = .int .i64 x25_2 ∧ Aside0 (span_Op.l0 kq a0 t537 x7_2 x8_2 x9_2 l1 (l1.length : Int) x25_2 = some (r1, r2, r3, r4, r5, r6, r7, r8)) ∧ Aside0 (kq ≤ kj3) ∧ Aside0 (Kd.R k25 25 w' w.heap.size (fun k_ => k_ ≠ gb536) v7 x7_2) ∧ Aside0 (w'.heap[gb536]? = some (.cells #[.int .i64 0, .int .i64 0, .int .i64 0, .int .i64 0, .int .i64 0, .bool false, .bool false] 25 (0, 0))) ∧ Aside0 (Below w.heap.size w w'))
    case atStart => exact ⟨(([] : List (S25))), (false), (false), (0), (by first | rfl | (simp; done) | (simp [*]; done)), (by first | rfl | (simp; done) | (simp [*]; done)), (by first | rfl | (simp; done) | (simp [*]; done)), H', ⟨Nat.le_refl _⟩, ⟨by first | exact Kd.R_nil _ _ _ _ _ | exact Kd.N_nil _ _ _ _ _ | exact Kd.V_nil _ _ _ _ _ | exact Kd.Q_nil _ _ _ _ _ | exact Kd.S_nil _ _ _ _ _⟩, ⟨by refine bk ?_; exact BK536.out⟩, ⟨by repeat first | (with_reducible exact HB.out) | (with_reducible refine bset ?_ ‹_›) | refine bl1 ?_ | exact HB.out⟩⟩
    case round =>
     clear H'; (try clear c1); (try clear c2); (try clear p2); (try clear c3); (try clear c6); (try clear c6b0); (try clear c6b1); (try clear c7); (try clear hcz8_0); (try clear hcz8_1); (try clear hcz8_2); (try clear hcz8_3); (try clear hcz8_4); (try clear hcz8_5); (try clear hcz8_6); (try clear hfz8_0); (try clear hfz8_1); (try clear hfz8_2); (try clear hfz8_3); (try clear hfz8_4); (try clear hfz8_5); (try clear hfz8_6); (try clear p2); obtain ⟨x7_2, x8_2, x9_2, x25_2, rfl, rfl, rfl, HA, HK2, HO_7, BK536, HB⟩ := hrel; cases gk with
     | zero => exact absurd HA.out (by simp [span_Op.l0])
     | succ k2 =>
      have H := HA.out; clear HA; simp only [span_Op.l0] at H; by_cases c9 : x25_2 < (l1.length : Int)
      ·
       rw [if_pos c9] at H; have c9b0 : decide (x25_2 < (l1.length : Int)) = true := decide_eq_true c9; clear c9; by_cases c10 : 0 ≤ x25_2
       ·
        rw [if_pos c10] at H; have c10b0 : decide (0 ≤ x25_2) = true := decide_eq_true c10; clear c10; by_cases c11 : x25_2 < (l1.length : Int)
        ·
         rw [if_pos c11] at H; have c11b0 : decide (x25_2 < (l1.length : Int)) = true := decide_eq_true c11; clear c11; replace H := Option.bind_eq_some_iff.mp H; obtain ⟨⟨t540, t541, t542, t543, t544, t545, t546⟩, A120, H⟩ := H; (try dsimp only at H); have A12 := Aside0.mk A120; clear A120; by_cases c13 : x7_2.length < 2932031007402
         ·
          rw [if_pos c13] at H; have LMc13 := Aside0.mk c13; clear c13; obtain ⟨y547, hy547⟩ : ∃ y_ : List (S25), y_ = (x7_2 ++ [(⟨(⟨t540, t541⟩ : S23), (⟨t542, t543⟩ : S23), t544, t545, t546⟩ : S25)]) := ⟨_, rfl⟩; (replace H : (if x8_2 = true then (none) else (if x9_2 = true then (none) else (span_Op.l0 k2 a0 t537 y547 t545 t546 l1 (l1.length : Int) (wrap64 (x25_2 + 1))))) = some (r1, r2, r3, r4, r5, r6, r7, r8) := by first | (rw [hy547]; with_reducible exact H) | (have H2_ := (Option.bind_some _ _).symm.trans H; rw [hy547]; with_reducible exact H2_) | (have H2_ := (Option.bind_some _ _).symm.trans H; with_reducible exact H2_) | with_reducible exact H | (rw [hy547]; exact H) | exact H); have Ny547 := Aside0.mk hy547; clear hy547; by_cases c14 : x8_2 = true
          · subst c14; rw [if_pos rfl] at H; cases H
          ·
           replace c14 := Bool.eq_false_iff.mpr c14; subst c14; rw [if_neg (show ¬ (false = true) by decide)] at H; by_cases c30 : x9_2 = true
           · subst c30; rw [if_pos rfl] at H; cases H
           ·
            replace c30 := Bool.eq_false_iff.mpr c30; subst c30; rw [if_neg (show ¬ (false = true) by decide)] at H; have H' := Aside0.mk H; clear H; have p538 : 0 ≤ (x25_2 : Int) := of_decide_eq_true (by first | (with_reducible assumption) | assumption); have q538 : x25_2 < (l1.length : Int) := of_decide_eq_true (by first | (with_reducible assumption) | assumption); obtain ⟨ad538, e538, hx538_0, hx538_1, hx538_2, hx538_3, hx538_4, hx538_5, hx538_6⟩ := at_T25 HR1.out x25_2 p538 q538; cases e538; replace hx538_0 := (HB.out.cell (World.block_lt_of_cell? w _ hx538_0)).trans hx538_0; replace hx538_1 := (HB.out.cell (World.block_lt_of_cell? w _ hx538_1)).trans hx538_1; replace hx538_2 := (HB.out.cell (World.block_lt_of_cell? w _ hx538_2)).trans hx538_2; replace hx538_3 := (HB.out.cell (World.block_lt_of_cell? w _ hx538_3)).trans hx538_3; replace hx538_4 := (HB.out.cell (World.block_lt_of_cell? w _ hx538_4)).trans hx538_4; replace hx538_5 := (HB.out.cell (World.block_lt_of_cell? w _ hx538_5)).trans hx538_5; replace hx538_6 := (HB.out.cell (World.block_lt_of_cell? w _ hx538_6)).trans hx538_6; replace p538 := eq_true p538; replace q538 := eq_true q538; (try go_wp2_with (first | ((with_reducible refine gate_dst (N := 11) rfl ?_); (try (refine gate_guard (by rfl) ?_; dsimp only)); refine box_event ?hg (N := 11) ?hd (cs := #[.int .i64 0, .int .i64 0, .int .i64 0, .int .i64 0, .int .i64 0, .bool false, .bool false]) (t := 25) ?hr ?_; (case hd => rfl); (case hg => rfl); (case hr => first | (go_simp; done) | (go_simp; rfl)); intro gb539 hg w38 hbox hb; have BK539 := Aside0.mk (hbox); have GW539 := Aside0.mk ((by rw [hg]; exact (below_size (by repeat first | (with_reducible exact HB.out) | refine bl1 ?_ | (with_reducible refine bset ?_ ‹_›) | exact HB.out)) : w.heap.size ≤ gb539)); have GE539 := Aside0.mk ((by rw [hg]; exact (below_size (by repeat first | (with_reducible exact HB.out) | refine bl1 ?_ | (with_reducible refine bset ?_ ‹_›) | exact HB.out)) : w.heap.size ≤ gb539)); have NB536_539 := nlk hg BK536; have NB539_536 := ngk hg BK536; replace HO_7 := Aside0.mk (Kd.R_below (Kd.R_elderB (by (with_reducible repeat (first | apply Kd.R_alloc | apply Kd.R_drewN | apply Kd.R_drew)); exact HO_7.out) gb539 (Nat.le_of_eq hg.symm)) hb); replace BK536 := kb BK536 hb; replace HB := Aside0.mk (below_step (by repeat first | (with_reducible exact HB.out) | refine bl1 ?_ | (with_reducible refine bset ?_ ‹_›) | exact HB.out) hb); clear hb hbox hg; have hnb39 := NB539_536.out; have hnc39 := NB536_539.out; obtain ⟨hcz40_0, hcz40_1, hcz40_2, hcz40_3, hcz40_4, hcz40_5, hcz40_6⟩ := bc7 BK539.out; obtain ⟨hfz40_0, hfz40_1, hfz40_2, hfz40_3, hfz40_4, hfz40_5, hfz40_6⟩ := bf7 BK539.out) | ((with_reducible refine gate_callee (f := 24) rfl ?_); refine goesL_ (some 30) rfl rfl Tryd.func24 (by kernel_rfl) rfl #[.agg #[.int .i64 ((rd_T25 l1 x25_2).f0.f0), .int .i64 ((rd_T25 l1 x25_2).f0.f1), .int .i64 ((rd_T25 l1 x25_2).f1.f0), .int .i64 ((rd_T25 l1 x25_2).f1.f1), .int .i64 ((rd_T25 l1 x25_2).f2), .bool ((rd_T25 l1 x25_2).f3), .bool ((rd_T25 l1 x25_2).f4)]] rfl (by (try simp only [mp]); first | done | rfl | (simp only [ld]; rfl)) ?_; (with_reducible refine (span_valid.calls k2 ((rd_T25 l1 x25_2).f0.f0) ((rd_T25 l1 x25_2).f0.f1) ((rd_T25 l1 x25_2).f1.f0) ((rd_T25 l1 x25_2).f1.f1) ((rd_T25 l1 x25_2).f2) ((rd_T25 l1 x25_2).f3) ((rd_T25 l1 x25_2).f4) t540 t541 t542 t543 t544 t545 t546 _ A12.out).mono ?_); rintro e w41 ⟨rfl, hb⟩; refine ⟨_, rfl, ?_⟩; replace HO_7 := Aside0.mk (Kd.R_below (by (with_reducible repeat (first | apply Kd.R_alloc | apply Kd.R_drewN | apply Kd.R_drew)); exact (Kd.R_mono (Kd.R_far (p := ⟨gb539, 6, none⟩) (Kd.R_far (p := ⟨gb539, 5, none⟩) (Kd.R_far (p := ⟨gb539, 4, none⟩) (Kd.R_far (p := ⟨gb539, 3, none⟩) (Kd.R_far (p := ⟨gb539, 2, none⟩) (Kd.R_far (p := ⟨gb539, 1, none⟩) (Kd.R_far (p := ⟨gb539, 0, none⟩) (Kd.R_mono HO_7.out (fun k_ hk => (⟨hk, hk.2⟩ : _ ∧ k_ ≠ gb539))) (fun _ hk => hk.2) (.int .i64 ((rd_T25 l1 x25_2).f0.f0))) (fun _ hk => hk.2) (.int .i64 ((rd_T25 l1 x25_2).f0.f1))) (fun _ hk => hk.2) (.int .i64 ((rd_T25 l1 x25_2).f1.f0))) (fun _ hk => hk.2) (.int .i64 ((rd_T25 l1 x25_2).f1.f1))) (fun _ hk => hk.2) (.int .i64 ((rd_T25 l1 x25_2).f2))) (fun _ hk => hk.2) (.bool ((rd_T25 l1 x25_2).f3))) (fun _ hk => hk.2) (.bool ((rd_T25 l1 x25_2).f4))) (fun _ h_ => h_.1))) hb); replace BK536 := Aside0.mk (blk_below (g := gb536) (o := .cells #[.int .i64 0, .int .i64 0, .int .i64 0, .int .i64 0, .int .i64 0, .bool false, .bool false] 25 (0, 0)) (by refine bk ?_; refine blk_far ?_ NB536_539.out _; refine bk ?_; refine blk_far ?_ NB536_539.out _; refine bk ?_; refine blk_far ?_ NB536_539.out _; refine bk ?_; refine blk_far ?_ NB536_539.out _; refine bk ?_; refine blk_far ?_ NB536_539.out _; refine bk ?_; refine blk_far ?_ NB536_539.out _; refine bk ?_; refine blk_far ?_ NB536_539.out _; refine bk ?_; exact BK536.out) hb); replace BK539 := Aside0.mk (blk_below (g := gb539) (o := .cells #[.int .i64 ((rd_T25 l1 x25_2).f0.f0), .int .i64 ((rd_T25 l1 x25_2).f0.f1), .int .i64 ((rd_T25 l1 x25_2).f1.f0), .int .i64 ((rd_T25 l1 x25_2).f1.f1), .int .i64 ((rd_T25 l1 x25_2).f2), .bool ((rd_T25 l1 x25_2).f3), .bool ((rd_T25 l1 x25_2).f4)] 25 (0, 0)) (by exact rq BK539.out (by rfl)) hb); replace HB := Aside0.mk (below_step (by repeat first | (with_reducible exact HB.out) | refine bl1 ?_ | (with_reducible refine bset ?_ ‹_›) | exact HB.out) hb); (try clear hb); (try clear hb2); (try clear hk); (try clear hi); obtain ⟨hcz42_0, hcz42_1, hcz42_2, hcz42_3, hcz42_4, hcz42_5, hcz42_6⟩ := bc7 BK539.out; obtain ⟨hfz42_0, hfz42_1, hfz42_2, hfz42_3, hfz42_4, hfz42_5, hfz42_6⟩ := bf7 BK539.out) | ((with_reducible refine gate_builtin (b := .append) (xs := #[.tmp 31, .tmp 33]) rfl ?_); (try (refine gate_guard (by rfl) ?_; dsimp only)); at_builtin; refine Kd.R_append k25 (w0 := w) w.heap.size rfl (.tmp 31) (.tmp 33) 29 25 (.agg #[(.int .i64 0), (.int .i64 0), (.int .i64 0), (.int .i64 0), (.int .i64 0), (.bool false), (.bool false)]) 48 rfl Tryd.underlying29 info25 rfl (by decide) (by omega) u7 x7_2 (⟨(⟨t540, t541⟩ : S23), (⟨t542, t543⟩ : S23), t544, t545, t546⟩ : S25) [.int .i64 t540, .int .i64 t541, .int .i64 t542, .int .i64 t543, .int .i64 t544, .bool t545, .bool t546] (fun k_ => k_ ≠ gb536 ∧ k_ ≠ gb539) (fun _ => False) rfl (by first | (go_simp; done) | (go_simp; rfl)) ?aP (fun _ hk => hk.elim) ?aF ?aO ?aB ?aS ?aL ?_; (case aP => exact k25_mkM _ _ _ (⟨(⟨t540, t541⟩ : S23), (⟨t542, t543⟩ : S23), t544, t545, t546⟩ : S25)); (case aB => exact (by repeat first | (with_reducible exact HB.out) | refine bl1 ?_ | (with_reducible refine bset ?_ ‹_›) | exact HB.out)); (case aF => exact (fun k_ hk => ⟨Kd.freshB (g := gb536) (o := .cells #[.int .i64 0, .int .i64 0, .int .i64 0, .int .i64 0, .int .i64 0, .bool false, .bool false] 25 (0, 0)) (by refine bk ?_; refine blk_far ?_ NB536_539.out _; refine bk ?_; refine blk_far ?_ NB536_539.out _; refine bk ?_; refine blk_far ?_ NB536_539.out _; refine bk ?_; refine blk_far ?_ NB536_539.out _; refine bk ?_; refine blk_far ?_ NB536_539.out _; refine bk ?_; refine blk_far ?_ NB536_539.out _; refine bk ?_; refine blk_far ?_ NB536_539.out _; refine bk ?_; exact BK536.out) k_ hk, Kd.freshB (g := gb539) (o := .cells #[.int .i64 t540, .int .i64 t541, .int .i64 t542, .int .i64 t543, .int .i64 t544, .bool t545, .bool t546] 25 (0, 0)) (by exact rq BK539.out (by rfl)) k_ hk⟩)); (case aO => exact (by (with_reducible repeat (first | apply Kd.R_alloc | apply Kd.R_drewN | apply Kd.R_drew)); exact Kd.R_mono (Kd.R_far (p := ⟨gb539, 6, none⟩) (Kd.R_far (p := ⟨gb539, 5, none⟩) (Kd.R_far (p := ⟨gb539, 4, none⟩) (Kd.R_far (p := ⟨gb539, 3, none⟩) (Kd.R_far (p := ⟨gb539, 2, none⟩) (Kd.R_far (p := ⟨gb539, 1, none⟩) (Kd.R_far (p := ⟨gb539, 0, none⟩) (Kd.R_mono HO_7.out (fun k_ hk => (⟨hk, hk.2⟩ : _ ∧ k_ ≠ gb539))) (fun _ hk => hk.2) (.int .i64 t540)) (fun _ hk => hk.2) (.int .i64 t541)) (fun _ hk => hk.2) (.int .i64 t542)) (fun _ hk => hk.2) (.int .i64 t543)) (fun _ hk => hk.2) (.int .i64 t544)) (fun _ hk => hk.2) (.bool t545)) (fun _ hk => hk.2) (.bool t546)) (fun _ hk => ⟨hk.1.1, hk.1.2⟩))); (case aS => exact (below_size (by repeat first | (with_reducible exact HB.out) | refine bl1 ?_ | (with_reducible refine bset ?_ ‹_›) | exact HB.out))); (case aL => have := LMc13.out; omega); intro v548 w43 ho hb hg hat; rw [← Ny547.out] at ho; have HO549 := Aside0.mk (ho); replace BK536 := Aside0.mk (blk_grown (g := gb536) (o := .cells #[.int .i64 0, .int .i64 0, .int .i64 0, .int .i64 0, .int .i64 0, .bool false, .bool false] 25 (0, 0)) (by refine bk ?_; refine blk_far ?_ NB536_539.out _; refine bk ?_; refine blk_far ?_ NB536_539.out _; refine bk ?_; refine blk_far ?_ NB536_539.out _; refine bk ?_; refine blk_far ?_ NB536_539.out _; refine bk ?_; refine blk_far ?_ NB536_539.out _; refine bk ?_; refine blk_far ?_ NB536_539.out _; refine bk ?_; refine blk_far ?_ NB536_539.out _; refine bk ?_; exact BK536.out) hg (Kd.R_away HO_7.out (fun _ hk => hk.1))); replace BK539 := Aside0.mk (blk_grown (g := gb539) (o := .cells #[.int .i64 t540, .int .i64 t541, .int .i64 t542, .int .i64 t543, .int .i64 t544, .bool t545, .bool t546] 25 (0, 0)) (by exact rq BK539.out (by rfl)) hg (Kd.R_away HO_7.out (fun _ hk => hk.2))); replace HB := Aside0.mk (hb); clear HO_7; clear ho hb hg hat))); replace HO549 := Aside0.mk (Kd.R_drew HO549.out); replace BK536 := kd BK536; replace BK539 := kd BK539; replace HB := Aside0.mk (below_drew1 HB.out); refine start_ (n := 12) (S := fun w' => w'.cell? ⟨gb539, 0, none⟩ = some (.int .i64 t540) ∧ w'.cell? ⟨gb539, 1, none⟩ = some (.int .i64 t541) ∧ w'.cell? ⟨gb539, 2, none⟩ = some (.int .i64 t542) ∧ w'.cell? ⟨gb539, 3, none⟩ = some (.int .i64 t543) ∧ w'.cell? ⟨gb539, 4, none⟩ = some (.int .i64 t544) ∧ w'.cell? ⟨gb539, 5, none⟩ = some (.bool t545) ∧ w'.cell? ⟨gb539, 6, none⟩ = some (.bool t546)) (ds := []) (bA 12 0) (by kernel_rfl) rfl rfl ⟨(blk_cell BK539.out 0).trans rfl, (blk_cell BK539.out 1).trans rfl, (blk_cell BK539.out 2).trans rfl, (blk_cell BK539.out 3).trans rfl, (blk_cell BK539.out 4).trans rfl, (blk_cell BK539.out 5).trans rfl, (blk_cell BK539.out 6).trans rfl⟩ (fun hHeld => ?_); refine with_tabW span_Op.tab11 span_Op.bits11 (fun HT_ HW_ => ?_); generalize w43.drew = w44 at HO549 BK536 BK539 HB hHeld ⊢; refine pure_ (i := 0) (N := some 35) (v := ?_) (a' := ?_) (bA 12 1) rfl rfl (any_of HT_.out (by kernel_rfl)) (fun _ _ _ h => h) (Or.inl ⟨by rfl, ?_⟩) ?_ ?_; rotate_left
            · intro w'; go_simp; with_reducible rfl
            rotate_left
            · simp only [ap]; rfl
            refine pure_ (i := 1) (N := some 36) (v := ?_) (a' := ?_) (bA 12 3) rfl rfl (any_of HT_.out (by kernel_rfl)) (fun _ _ _ h => h) (Or.inl ⟨by rfl, ?_⟩) ?_ ?_; rotate_left
            · intro w'; go_simp; with_reducible rfl
            rotate_left
            · simp only [ap]; rfl
            refine pure_ (i := 2) (N := some 37) (v := ?_) (a' := ?_) (bA 12 7) rfl rfl (any_of HT_.out (by kernel_rfl)) (fun _ _ _ h => h) (Or.inl ⟨by rfl, ?_⟩) ?_ ?_; rotate_left
            · intro w'; go_simp; with_reducible rfl
            rotate_left
            · simp only [ap]; rfl
            refine pure_ (i := 5) (N := some 40) (v := ?_) (a' := ?_) (bA 12 39) rfl rfl (any_of HT_.out (by kernel_rfl)) (fun _ _ _ h => h) (Or.inl ⟨by rfl, ?_⟩) ?_ ?_; rotate_left
            · intro w'; go_simp; with_reducible rfl
            rotate_left
            · simp only [ap]; rfl
            refine pure_ (i := 6) (N := some 41) (v := ?_) (a' := ?_) (bA 12 103) rfl rfl (any_of HT_.out (by kernel_rfl)) (fun _ _ _ h => h) (Or.inl ⟨by rfl, ?_⟩) ?_ ?_; rotate_left
            · intro w'; go_simp; with_reducible rfl
            rotate_left
            · simp only [ap]; rfl
            refine pure_ (i := 7) (N := some 42) (v := ?_) (a' := ?_) (bA 12 231) rfl rfl (any_of HT_.out (by kernel_rfl)) (fun _ _ _ h => h) (Or.inl ⟨by rfl, ?_⟩) ?_ ?_; rotate_left
            · intro w'; go_simp; with_reducible rfl
            rotate_left
            · simp only [ap]; rfl
            refine take_ (i := 3) (N := some 38) (v := ?_) (a' := ?_) (bA 12 239) rfl rfl (take_ofW HT_.out HW_.out (by kernel_rfl)) (fun _ _ _ h => h) (Or.inl ⟨by rfl, ?_⟩) hHeld ?_ ?_; rotate_left
            · rintro w' ⟨s0, s1, s2, s3, s4, s5, s6⟩; go_simp; with_reducible rfl
            rotate_left
            · simp only [ap]; rfl
            refine pure_ (i := 4) (N := some 39) (v := ?_) (a' := ?_) (bA 12 255) rfl rfl (any_of HT_.out (by kernel_rfl)) (fun _ _ _ h => h) (Or.inl ⟨by rfl, ?_⟩) ?_ ?_; rotate_left
            · intro w'; go_simp; with_reducible rfl
            rotate_left
            · simp only [ap]; rfl
            refine pure_ (i := 10) (N := some 8) (v := ?_) (a' := ?_) (bA 12 1279) rfl rfl (any_of HT_.out (by kernel_rfl)) (fun _ _ _ h => h) (Or.inl ⟨by rfl, ?_⟩) ?_ ?_; rotate_left
            · intro w'; go_simp; with_reducible rfl
            rotate_left
            · simp only [ap]; rfl
            refine take_ (i := 8) (N := some 43) (v := ?_) (a' := ?_) (bA 12 1535) rfl rfl (take_ofW HT_.out HW_.out (by kernel_rfl)) (fun _ _ _ h => h) (Or.inl ⟨by rfl, ?_⟩) hHeld ?_ ?_; rotate_left
            · rintro w' ⟨s0, s1, s2, s3, s4, s5, s6⟩; go_simp; with_reducible rfl
            rotate_left
            · simp only [ap]; rfl
            refine pure_ (i := 9) (N := some 44) (v := ?_) (a' := ?_) (bA 12 2047) rfl rfl (any_of HT_.out (by kernel_rfl)) (fun _ _ _ h => h) (Or.inl ⟨by rfl, ?_⟩) ?_ ?_; rotate_left
            · intro w'; go_simp; with_reducible rfl
            rotate_left
            · simp only [ap]; rfl
            refine pure_ (i := 11) (N := some 9) (v := ?_) (a' := ?_) (bA 12 4095) rfl rfl (any_of HT_.out (by kernel_rfl)) (fun _ _ _ h => h) (Or.inl ⟨by rfl, ?_⟩) ?_ ?_; rotate_left
            · intro w'; go_simp; with_reducible rfl
            rotate_left
            · simp only [ap]; rfl
            refine done_ (done_of HT_.out (by kernel_rfl)) ?_; (try go_wp2); go_roundg k2
            case measure => have := HJ3.out; have := HK2.out; omega
            case rel => exact ⟨(y547), (t545), (t546), (wrap64 (x25_2 + 1)), (by first | rfl | (simp; done) | (simp [*]; done)), (by first | rfl | (simp; done) | (simp [*]; done)), (by first | rfl | (simp; done) | (simp [*]; done)), H', ⟨by have := HJ3.out; have := HK2.out; omega⟩, ⟨by (with_reducible repeat (first | apply Kd.R_alloc | apply Kd.R_drewN | apply Kd.R_drew)); exact Kd.R_mono HO549.out (fun _ hk => hk.1)⟩, ⟨by refine bk ?_; exact BK536.out⟩, ⟨by repeat first | (with_reducible exact HB.out) | (with_reducible refine bset ?_ ‹_›) | refine bl1 ?_ | exact HB.out⟩⟩
         · rw [if_neg c13] at H; exact absurd H (by simp)
        · rw [if_neg c11] at H; exact absurd H (by simp)
       · rw [if_neg c10] at H; exact absurd H (by simp)
      ·
       rw [if_neg c9] at H; have c9b0 : decide (x25_2 < (l1.length : Int)) = false := decide_eq_false c9; clear c9; by_cases c45 : t537 = 3
       · rw [if_pos c45] at H; cases H
       ·
        rw [if_neg c45] at H; have c45b0 : (t537 == 3) = false := beq_eq_false_iff_ne.mpr c45; have c45b1 : (t537 != 3) = true := bne_iff_ne.mpr c45; by_cases c60 : x9_2 = true
        · subst c60; rw [if_pos rfl] at H; cases H
        ·
         replace c60 := Bool.eq_false_iff.mpr c60; subst c60; rw [if_neg (show ¬ (false = true) by decide)] at H; by_cases c64 : t537 = 1
         · rw [if_pos c64] at H; cases H
         ·
          rw [if_neg c64] at H; have c64b0 : (t537 == 1) = false := beq_eq_false_iff_ne.mpr c64; have c64b1 : (t537 != 1) = true := bne_iff_ne.mpr c64; by_cases c70 : 0 < (x7_2.length : Int)
          ·
           rw [if_pos c70] at H; have c70b0 : decide (0 < (x7_2.length : Int)) = true := decide_eq_true c70; have c70b1 : decide (0 < x7_2.length) = true := decide_eq_true (by omega); clear c70; by_cases c71 : 1 < (x7_2.length : Int)
           ·
            rw [if_pos c71] at H; have c71b0 : decide (1 < (x7_2.length : Int)) = true := decide_eq_true c71; have c71b1 : decide (1 < x7_2.length) = true := decide_eq_true (by omega); clear c71; replace H := Option.bind_eq_some_iff.mp H; obtain ⟨⟨t577, t578, t579, t580, t581, t582, t583⟩, A720, H⟩ := H; (try dsimp only at H); have A72 := Aside0.mk A720; clear A720; simp only [Option.some.injEq, Prod.mk.injEq] at H; obtain ⟨rfl, rfl, rfl, rfl, rfl, rfl, rfl, rfl⟩ := H; (try go_wp2); replace HO_7 := Aside0.mk (Kd.R_drew HO_7.out); replace BK536 := kd BK536; replace HB := Aside0.mk (below_drew1 HB.out); obtain ⟨Ao74, co74, eo74⟩ := Kd.R_slice HO_7.out; (first | subst eo74 | (injection eo74 with f1_ f2_ f3_; have f4_ := f1_.symm; have f5_ := f3_.symm; clear f1_ f2_ f3_; subst f4_; subst f5_)); have p575 : 0 ≤ (0 : Int) := (by omega); have q575 : 0 < (x7_2.length : Int) := of_decide_eq_true (by first | (with_reducible assumption) | assumption); obtain ⟨ad575, e575, hx575_0, hx575_1, hx575_2, hx575_3, hx575_4, hx575_5, hx575_6⟩ := at_T25 (Kd.R_reads' HO_7.out).2.2 0 p575 q575; cases e575; have qi575 : (0 < x7_2.length) = True := eq_true (by omega); (try rw [show ((0 : Int)).toNat = 0 from rfl] at hx575_0); (try rw [show 0 * 7 = 0 from rfl] at hx575_0); (try rw [Addr.add_zero'] at hx575_0); (try rw [show ((0 : Int)).toNat = 0 from rfl] at hx575_1); (try rw [show 0 * 7 = 0 from rfl] at hx575_1); (try rw [Addr.add_zero'] at hx575_1); (try rw [show ((0 : Int)).toNat = 0 from rfl] at hx575_2); (try rw [show 0 * 7 = 0 from rfl] at hx575_2); (try rw [Addr.add_zero'] at hx575_2); (try rw [show ((0 : Int)).toNat = 0 from rfl] at hx575_3); (try rw [show 0 * 7 = 0 from rfl] at hx575_3); (try rw [Addr.add_zero'] at hx575_3); (try rw [show ((0 : Int)).toNat = 0 from rfl] at hx575_4); (try rw [show 0 * 7 = 0 from rfl] at hx575_4); (try rw [Addr.add_zero'] at hx575_4); (try rw [show ((0 : Int)).toNat = 0 from rfl] at hx575_5); (try rw [show 0 * 7 = 0 from rfl] at hx575_5); (try rw [Addr.add_zero'] at hx575_5); (try rw [show ((0 : Int)).toNat = 0 from rfl] at hx575_6); (try rw [show 0 * 7 = 0 from rfl] at hx575_6); (try rw [Addr.add_zero'] at hx575_6); replace p575 := eq_true p575; replace q575 := eq_true q575; have p576 : 0 ≤ (1 : Int) := (by omega); have q576 : 1 < (x7_2.length : Int) := of_decide_eq_true (by first | (with_reducible assumption) | assumption); obtain ⟨ad576, e576, hx576_0, hx576_1, hx576_2, hx576_3, hx576_4, hx576_5, hx576_6⟩ := at_T25 (Kd.R_reads' HO_7.out).2.2 1 p576 q576; obtain rfl : ad575 = ad576 := (by injection e576); (try simp only [show (1 : Int).toNat = 1 from rfl, Nat.reduceMul, Nat.reduceEqDiff, Go.Addr.add, ↓reduceIte] at hx576_0); (try simp only [show (1 : Int).toNat = 1 from rfl, Nat.reduceMul, Nat.reduceEqDiff, Go.Addr.add, ↓reduceIte] at hx576_1); (try simp only [show (1 : Int).toNat = 1 from rfl, Nat.reduceMul, Nat.reduceEqDiff, Go.Addr.add, ↓reduceIte] at hx576_2); (try simp only [show (1 : Int).toNat = 1 from rfl, Nat.reduceMul, Nat.reduceEqDiff, Go.Addr.add, ↓reduceIte] at hx576_3); (try simp only [show (1 : Int).toNat = 1 from rfl, Nat.reduceMul, Nat.reduceEqDiff, Go.Addr.add, ↓reduceIte] at hx576_4); (try simp only [show (1 : Int).toNat = 1 from rfl, Nat.reduceMul, Nat.reduceEqDiff, Go.Addr.add, ↓reduceIte] at hx576_5); (try simp only [show (1 : Int).toNat = 1 from rfl, Nat.reduceMul, Nat.reduceEqDiff, Go.Addr.add, ↓reduceIte] at hx576_6); have qi576 : (1 < x7_2.length) = True := eq_true (by omega); (try rw [show ((1 : Int)).toNat = 1 from rfl] at hx576_0); (try rw [show 1 * 7 = 7 from rfl] at hx576_0); (try rw [show ((1 : Int)).toNat = 1 from rfl] at hx576_1); (try rw [show 1 * 7 = 7 from rfl] at hx576_1); (try rw [show ((1 : Int)).toNat = 1 from rfl] at hx576_2); (try rw [show 1 * 7 = 7 from rfl] at hx576_2); (try rw [show ((1 : Int)).toNat = 1 from rfl] at hx576_3); (try rw [show 1 * 7 = 7 from rfl] at hx576_3); (try rw [show ((1 : Int)).toNat = 1 from rfl] at hx576_4); (try rw [show 1 * 7 = 7 from rfl] at hx576_4); (try rw [show ((1 : Int)).toNat = 1 from rfl] at hx576_5); (try rw [show 1 * 7 = 7 from rfl] at hx576_5); (try rw [show ((1 : Int)).toNat = 1 from rfl] at hx576_6); (try rw [show 1 * 7 = 7 from rfl] at hx576_6); replace p576 := eq_true p576; replace q576 := eq_true q576; refine start_ (n := 11) (S := fun w' => w'.cell? ad575 = some (.int .i64 ((rd_T25 x7_2 0).f0.f0)) ∧ w'.cell? ⟨ad575.block, ad575.off + 1, none⟩ = some (.int .i64 ((rd_T25 x7_2 0).f0.f1)) ∧ w'.cell? ⟨ad575.block, ad575.off + 2, none⟩ = some (.int .i64 ((rd_T25 x7_2 0).f1.f0)) ∧ w'.cell? ⟨ad575.block, ad575.off + 3, none⟩ = some (.int .i64 ((rd_T25 x7_2 0).f1.f1)) ∧ w'.cell? ⟨ad575.block, ad575.off + 4, none⟩ = some (.int .i64 ((rd_T25 x7_2 0).f2)) ∧ w'.cell? ⟨ad575.block, ad575.off + 5, none⟩ = some (.bool ((rd_T25 x7_2 0).f3)) ∧ w'.cell? ⟨ad575.block, ad575.off + 6, none⟩ = some (.bool ((rd_T25 x7_2 0).f4)) ∧ w'.cell? ⟨ad575.block, ad575.off + 7, none⟩ = some (.int .i64 ((rd_T25 x7_2 1).f0.f0)) ∧ w'.cell? ⟨ad575.block, ad575.off + 7 + 1, none⟩ = some (.int .i64 ((rd_T25 x7_2 1).f0.f1)) ∧ w'.cell? ⟨ad575.block, ad575.off + 7 + 2, none⟩ = some (.int .i64 ((rd_T25 x7_2 1).f1.f0)) ∧ w'.cell? ⟨ad575.block, ad575.off + 7 + 3, none⟩ = some (.int .i64 ((rd_T25 x7_2 1).f1.f1)) ∧ w'.cell? ⟨ad575.block, ad575.off + 7 + 4, none⟩ = some (.int .i64 ((rd_T25 x7_2 1).f2)) ∧ w'.cell? ⟨ad575.block, ad575.off + 7 + 5, none⟩ = some (.bool ((rd_T25 x7_2 1).f3)) ∧ w'.cell? ⟨ad575.block, ad575.off + 7 + 6, none⟩ = some (.bool ((rd_T25 x7_2 1).f4))) (ds := []) (bA 11 0) (by kernel_rfl) rfl rfl ⟨hx575_0, hx575_1, hx575_2, hx575_3, hx575_4, hx575_5, hx575_6, hx576_0, hx576_1, hx576_2, hx576_3, hx576_4, hx576_5, hx576_6⟩ (fun hHeld => ?_); refine with_tabW span_Op.tab19 span_Op.bits19 (fun HT_ HW_ => ?_); generalize wr.drew = w73 at HO_7 BK536 HB hx575_0 hx575_1 hx575_2 hx575_3 hx575_4 hx575_5 hx575_6 hx576_0 hx576_1 hx576_2 hx576_3 hx576_4 hx576_5 hx576_6 hHeld ⊢; have hH0 := hHeld; have HBW := hbw w73; refine pure_ (i := 0) (N := some 71) (v := ?_) (a' := ?_) (bA 11 1) rfl rfl (any_of HT_.out (by kernel_rfl)) (fun _ _ _ h => h) (Or.inl ⟨by rfl, ?_⟩) ?_ ?_; rotate_left
            · intro w'; go_simp; with_reducible rfl
            rotate_left
            · simp only [ap]; rfl
            refine pure_ (i := 1) (N := some 72) (v := ?_) (a' := ?_) (bA 11 3) rfl rfl (any_of HT_.out (by kernel_rfl)) (fun _ _ _ h => h) (Or.inl ⟨by rfl, ?_⟩) ?_ ?_; rotate_left
            · intro w'; go_simp; with_reducible rfl
            rotate_left
            · simp only [ap]; rfl
            refine pure_ (i := 2) (N := some 73) (v := ?_) (a' := ?_) (bA 11 7) rfl rfl (any_of HT_.out (by kernel_rfl)) (fun _ _ _ h => h) (Or.inl ⟨by rfl, ?_⟩) ?_ ?_; rotate_left
            · intro w'; go_simp; with_reducible rfl
            rotate_left
            · simp only [ap]; rfl
            refine pure_ (i := 4) (N := some 75) (v := ?_) (a' := ?_) (bA 11 23) rfl rfl (any_of HT_.out (by kernel_rfl)) (fun _ _ _ h => h) (Or.inl ⟨by rfl, ?_⟩) ?_ ?_; rotate_left
            · intro w'; go_simp; with_reducible rfl
            rotate_left
            · simp only [ap]; rfl
            refine pure_ (i := 5) (N := some 76) (v := ?_) (a' := ?_) (bA 11 55) rfl rfl (any_of HT_.out (by kernel_rfl)) (fun _ _ _ h => h) (Or.inl ⟨by rfl, ?_⟩) ?_ ?_; rotate_left
            · intro w'; go_simp; with_reducible rfl
            rotate_left
            · simp only [ap]; rfl
            refine pure_ (i := 7) (N := some 78) (v := ?_) (a' := ?_) (bA 11 183) rfl rfl (any_of HT_.out (by kernel_rfl)) (fun _ _ _ h => h) (Or.inl ⟨by rfl, ?_⟩) ?_ ?_; rotate_left
            · intro w'; go_simp; with_reducible rfl
            rotate_left
            · simp only [ap]; rfl
            refine take_ (i := 3) (N := some 74) (v := ?_) (a' := ?_) (bA 11 191) rfl rfl (take_ofW HT_.out HW_.out (by kernel_rfl)) (fun _ _ _ h => h) (Or.inl ⟨by rfl, ?_⟩) hHeld ?_ ?_; rotate_left
            · rintro w' ⟨s0, s1, s2, s3, s4, s5, s6, s7, s8, s9, s10, s11, s12, s13⟩; go_simp; with_reducible rfl
            rotate_left
            · simp only [ap]; rfl
            refine take_ (i := 6) (N := some 77) (v := ?_) (a' := ?_) (bA 11 255) rfl rfl (take_ofW HT_.out HW_.out (by kernel_rfl)) (fun _ _ _ h => h) (Or.inl ⟨by rfl, ?_⟩) hHeld ?_ ?_; rotate_left
            · rintro w' ⟨s0, s1, s2, s3, s4, s5, s6, s7, s8, s9, s10, s11, s12, s13⟩; go_simp; with_reducible rfl
            rotate_left
            · simp only [ap]; rfl
            refine one_ (i := 8) (N := some 79) (bA 11 511) rfl rfl (one_of HT_.out (by kernel_rfl)) (by decide) (fun K hK => ?_); refine goes_ Tryd.func39 (by kernel_rfl) rfl #[.string a0, .agg #[.int .i64 ((rd_T25 x7_2 0).f0.f0), .int .i64 ((rd_T25 x7_2 0).f0.f1), .int .i64 ((rd_T25 x7_2 0).f1.f0), .int .i64 ((rd_T25 x7_2 0).f1.f1), .int .i64 ((rd_T25 x7_2 0).f2), .bool ((rd_T25 x7_2 0).f3), .bool ((rd_T25 x7_2 0).f4)], .agg #[.int .i64 ((rd_T25 x7_2 1).f0.f0), .int .i64 ((rd_T25 x7_2 1).f0.f1), .int .i64 ((rd_T25 x7_2 1).f1.f0), .int .i64 ((rd_T25 x7_2 1).f1.f1), .int .i64 ((rd_T25 x7_2 1).f2), .bool ((rd_T25 x7_2 1).f3), .bool ((rd_T25 x7_2 1).f4)], .bool x8_2] (by rfl) rfl rfl (by (try simp only [mp]); first | done | rfl | (simp only [ld]; rfl)) ?_; (with_reducible refine (span_binary.calls k2 a0 ((rd_T25 x7_2 0).f0.f0) ((rd_T25 x7_2 0).f0.f1) ((rd_T25 x7_2 0).f1.f0) ((rd_T25 x7_2 0).f1.f1) ((rd_T25 x7_2 0).f2) ((rd_T25 x7_2 0).f3) ((rd_T25 x7_2 0).f4) ((rd_T25 x7_2 1).f0.f0) ((rd_T25 x7_2 1).f0.f1) ((rd_T25 x7_2 1).f1.f0) ((rd_T25 x7_2 1).f1.f1) ((rd_T25 x7_2 1).f2) ((rd_T25 x7_2 1).f3) ((rd_T25 x7_2 1).f4) x8_2 t577 t578 t579 t580 t581 t582 t583 _ A72.out).mono ?_); rintro e w75 ⟨rfl, hb⟩; refine ⟨_, rfl, ?_⟩; replace HBW := hs HBW hb; clear hb; refine hK.out _ _ (hc8 HBW.out (hs6 HBW.out) hH0) (fun hHeld => ?_); clear hK K; refine norm_ (a' := ?_) ?_ ?_; rotate_left
            · (show Act.put _ (some 79) _ = _); simp only [ap]; rfl
            replace HO_7 := Aside0.mk (Kd.R_below HO_7.out HBW.out); replace BK536 := kb BK536 HBW.out; replace HB := hs HB HBW.out; refine one_ (i := 9) (N := none) (bA 11 1023) rfl rfl (one_of HT_.out (by kernel_rfl)) (by decide) (fun K hK => ?_); have hs76 : w75.cell? ⟨gb536, 0, none⟩ = some (.int .i64 0) := (blk_cell BK536.out 0).trans rfl; have hfs76 := blk_frozen BK536.out 0; have hs77 : w75.cell? ⟨gb536, 1, none⟩ = some (.int .i64 0) := (blk_cell BK536.out 1).trans rfl; have hfs77 := blk_frozen BK536.out 1; have hs78 : w75.cell? ⟨gb536, 2, none⟩ = some (.int .i64 0) := (blk_cell BK536.out 2).trans rfl; have hfs78 := blk_frozen BK536.out 2; have hs79 : w75.cell? ⟨gb536, 3, none⟩ = some (.int .i64 0) := (blk_cell BK536.out 3).trans rfl; have hfs79 := blk_frozen BK536.out 3; have hs80 : w75.cell? ⟨gb536, 4, none⟩ = some (.int .i64 0) := (blk_cell BK536.out 4).trans rfl; have hfs80 := blk_frozen BK536.out 4; have hs81 : w75.cell? ⟨gb536, 5, none⟩ = some (.bool false) := (blk_cell BK536.out 5).trans rfl; have hfs81 := blk_frozen BK536.out 5; have hs82 : w75.cell? ⟨gb536, 6, none⟩ = some (.bool false) := (blk_cell BK536.out 6).trans rfl; have hfs82 := blk_frozen BK536.out 6; refine skip_ (w1 := ?_) (by rfl) rfl ?_ ?_; rotate_left
            · go_simp; rfl
            have hfr0_ := Kd.own_blk (Kd.R_away HO_7.out (fun _ hk => hk)); refine hK.out _ _ ⟨(cf7 (by first | exact hfr0_ | (rw [add_block]; exact hfr0_) | (show (Addr.add _ _).block ≠ _; rw [add_block]; exact hfr0_) | (dsimp only; exact hfr0_)) hHeld.1), (cf7 (by first | exact hfr0_ | (rw [add_block]; exact hfr0_) | (show (Addr.add _ _).block ≠ _; rw [add_block]; exact hfr0_) | (dsimp only; exact hfr0_)) hHeld.2.1), (cf7 (by first | exact hfr0_ | (rw [add_block]; exact hfr0_) | (show (Addr.add _ _).block ≠ _; rw [add_block]; exact hfr0_) | (dsimp only; exact hfr0_)) hHeld.2.2.1), (cf7 (by first | exact hfr0_ | (rw [add_block]; exact hfr0_) | (show (Addr.add _ _).block ≠ _; rw [add_block]; exact hfr0_) | (dsimp only; exact hfr0_)) hHeld.2.2.2.1), (cf7 (by first | exact hfr0_ | (rw [add_block]; exact hfr0_) | (show (Addr.add _ _).block ≠ _; rw [add_block]; exact hfr0_) | (dsimp only; exact hfr0_)) hHeld.2.2.2.2.1), (cf7 (by first | exact hfr0_ | (rw [add_block]; exact hfr0_) | (show (Addr.add _ _).block ≠ _; rw [add_block]; exact hfr0_) | (dsimp only; exact hfr0_)) hHeld.2.2.2.2.2.1), (cf7 (by first | exact hfr0_ | (rw [add_block]; exact hfr0_) | (show (Addr.add _ _).block ≠ _; rw [add_block]; exact hfr0_) | (dsimp only; exact hfr0_)) hHeld.2.2.2.2.2.2.1), (cf7 (by first | exact hfr0_ | (rw [add_block]; exact hfr0_) | (show (Addr.add _ _).block ≠ _; rw [add_block]; exact hfr0_) | (dsimp only; exact hfr0_)) hHeld.2.2.2.2.2.2.2.1), (cf7 (by first | exact hfr0_ | (rw [add_block]; exact hfr0_) | (show (Addr.add _ _).block ≠ _; rw [add_block]; exact hfr0_) | (dsimp only; exact hfr0_)) hHeld.2.2.2.2.2.2.2.2.1), (cf7 (by first | exact hfr0_ | (rw [add_block]; exact hfr0_) | (show (Addr.add _ _).block ≠ _; rw [add_block]; exact hfr0_) | (dsimp only; exact hfr0_)) hHeld.2.2.2.2.2.2.2.2.2.1), (cf7 (by first | exact hfr0_ | (rw [add_block]; exact hfr0_) | (show (Addr.add _ _).block ≠ _; rw [add_block]; exact hfr0_) | (dsimp only; exact hfr0_)) hHeld.2.2.2.2.2.2.2.2.2.2.1), (cf7 (by first | exact hfr0_ | (rw [add_block]; exact hfr0_) | (show (Addr.add _ _).block ≠ _; rw [add_block]; exact hfr0_) | (dsimp only; exact hfr0_)) hHeld.2.2.2.2.2.2.2.2.2.2.2.1), (cf7 (by first | exact hfr0_ | (rw [add_block]; exact hfr0_) | (show (Addr.add _ _).block ≠ _; rw [add_block]; exact hfr0_) | (dsimp only; exact hfr0_)) hHeld.2.2.2.2.2.2.2.2.2.2.2.2.1), (cf7 (by first | exact hfr0_ | (rw [add_block]; exact hfr0_) | (show (Addr.add _ _).block ≠ _; rw [add_block]; exact hfr0_) | (dsimp only; exact hfr0_)) hHeld.2.2.2.2.2.2.2.2.2.2.2.2.2)⟩ (fun hHeld => ?_); clear hfr0_; clear hK K; refine pure_ (i := 10) (N := some 5) (v := ?_) (a' := ?_) (bA 11 2047) rfl rfl (any_of HT_.out (by kernel_rfl)) (fun _ _ _ h => h) (Or.inl ⟨by rfl, ?_⟩) ?_ ?_; rotate_left
            · intro w'; go_simp; with_reducible rfl
            rotate_left
            · simp only [ap]; rfl
            refine done_ (done_of HT_.out (by kernel_rfl)) ?_; clear HBW hH0; (try go_wp2); refine bodyPost_ret (results_ct rfl _ _ gb536 25 #[.int .i64 t577, .int .i64 t578, .int .i64 t579, .int .i64 t580, .int .i64 t581, .bool t582, .bool t583] (0, 0) _ rfl (by exact rq BK536.out (by rfl)) Tryd.underlying25 rfl (by kernel_rfl)) rfl ?_; exact ⟨by first | rfl | (simp [errW_none, errW_some] <;> rfl) | (simp [*, errW_none, errW_some] <;> rfl), by repeat first | (with_reducible exact HB.out) | (with_reducible refine bset ?_ ‹_›) | refine bl1 ?_ | exact HB.out⟩
           · rw [if_neg c71] at H; exact absurd H (by simp)
          · rw [if_neg c70] at H; exact absurd H (by simp)
def strconv_FormatInt_41.f (a0 : Int) (a1 : Int) : Option (ByteArray) := (strconv_FormatInt_68.f a0 a1).bind fun t602 => (some t602)
set_option maxHeartbeats 8000000 in
set_option maxRecDepth 100000 in
theorem strconv_FormatInt_41.calls (a0 : Int) (a1 : Int) (r : ByteArray) (w : World) (h : strconv_FormatInt_41.f a0 a1 = some r) :
  Calls Tryd.prog 41 #[.int .i64 a0, .int .i64 a1] w fun e w' => e = .returned (.string r) ∧ Drawn0 w w' := by
 have H : ((strconv_FormatInt_68.f a0 a1).bind fun t602 => (some t602)) = some r := h; clear h; replace H := Option.bind_eq_some_iff.mp H; obtain ⟨t602, A30, H⟩ := H; (try dsimp only at H); have A3 := Aside0.mk A30; clear A30; obtain rfl := Option.some.inj H; go_enter Tryd.func41, Tryd.ntmps41; go_wp2_with (first | ((with_reducible refine gate_callee (f := 68) rfl ?_); refine goesL_ (some 7) rfl rfl Tryd.func68 (by kernel_rfl) rfl #[.int .i64 a0, .int .i64 a1] rfl (by (try simp only [mp]); first | done | rfl | (simp only [ld]; rfl)) ?_; (with_reducible refine (strconv_FormatInt_68.calls a0 a1 t602 _ A3.out).mono ?_); rintro e w' ⟨rfl, ⟨nd, rfl⟩⟩; refine ⟨_, rfl, ?_⟩)); go_ret; exact ⟨by first | rfl | (simp; done) | (simp [*]; done), by repeat (first | exact Drawn0.refl _ | apply Drawn0.step)⟩
def ratio_Text.f (k : Nat) (a0_0 : Int) (a0_1 : Int) : Option (ByteArray) := (ratio_Is.f k a0_0 a0_1).bind fun t604 => (if t604 = true then (if a0_1 = 1 then ((strconv_FormatInt_41.f a0_0 10).bind fun t605 => (some t605)) else (none)) else (none))
theorem ratio_Text.mono : ∀ a0 a1 k, LeO (ratio_Text.f k a0 a1) (ratio_Text.f (k + 1) a0 a1) := by
 intro a0 a1 k
 unfold ratio_Text.f
 repeat' first
   | (with_reducible exact ratio_Is.mono _ _ _)
   | (with_reducible exact LeO.refl _)
   | (with_reducible exact LeO.none _)
   | (with_reducible refine LeO.ite ?_ ?_)
   | (with_reducible refine LeO.bind ?_ (fun _ => ?_))
   | exact ratio_Is.mono _ _ _
   | exact LeO.none _
   | refine LeO.ite ?_ ?_
   | refine LeO.bind ?_ (fun _ => ?_)
set_option maxHeartbeats 8000000 in
set_option maxRecDepth 100000 in
theorem ratio_Text.calls (k : Nat) (a0_0 : Int) (a0_1 : Int) (r : ByteArray) (w : World) (h : ratio_Text.f k a0_0 a0_1 = some r) :
  Calls Tryd.prog 67 #[.agg #[.int .i64 a0_0, .int .i64 a0_1]] w fun e w' => e = .returned (.string r) ∧ Below w.heap.size w w' := by
 have hu23 := Tryd.underlying23; have HB := Aside0.mk (Below.refl w.heap.size w); have H : ((ratio_Is.f k a0_0 a0_1).bind fun t604 => (if t604 = true then (if a0_1 = 1 then ((strconv_FormatInt_41.f a0_0 10).bind fun t605 => (some t605)) else (none)) else (none))) = some r := h; clear h; replace H := Option.bind_eq_some_iff.mp H; obtain ⟨t604, A20, H⟩ := H; (try dsimp only at H); have A2 := Aside0.mk A20; clear A20; by_cases c3 : t604 = true
 ·
  subst c3; rw [if_pos rfl] at H; by_cases c4 : a0_1 = 1
  · rw [if_pos c4] at H; have c4b0 : (a0_1 == 1) = true := beq_iff_eq.mpr c4; have c4b1 : (a0_1 != 1) = false := bne_eq_false_iff_eq.mpr c4; clear c4; replace H := Option.bind_eq_some_iff.mp H; obtain ⟨t605, A50, H⟩ := H; (try dsimp only at H); have A5 := Aside0.mk A50; clear A50; obtain rfl := Option.some.inj H; go_enter Tryd.func67, Tryd.ntmps67; go_wp2_with (first | ((with_reducible refine gate_dst (N := 1) rfl ?_); refine box_event ?hg (N := 1) ?hd (cs := #[.int .i64 a0_0, .int .i64 a0_1]) (t := 23) ?hr ?_; (case hd => rfl); (case hg => rfl); (case hr => first | (go_simp; done) | (go_simp; rfl)); intro gb603 hg w6 hbox hb; have BK603 := Aside0.mk (hbox); have GW603 := hz_ hg HB; have GE603 := hz_ hg HB; replace HB := hs HB hb; clear hb hbox hg; obtain ⟨hcz7_0, hcz7_1⟩ := bc2 BK603.out; obtain ⟨hfz7_0, hfz7_1⟩ := bf2 BK603.out) | (go_at_call 15; (with_reducible refine (ratio_Is.calls k a0_0 a0_1 true _ A2.out).mono ?_); rintro e w8 ⟨rfl, hb⟩; replace BK603 := kb BK603 hb; replace HB := Aside0.mk (below_step (by repeat first | (with_reducible exact HB.out) | refine bl1 ?_ | (with_reducible refine bset ?_ ‹_›) | exact HB.out) hb); (try clear hb); (try clear hb2); (try clear hk); (try clear hi); obtain ⟨hcz9_0, hcz9_1⟩ := bc2 BK603.out; obtain ⟨hfz9_0, hfz9_1⟩ := bf2 BK603.out) | (go_at_call 41; (with_reducible refine (strconv_FormatInt_41.calls a0_0 10 t605 _ A5.out).mono ?_); rintro e w' ⟨rfl, ⟨nd, rfl⟩⟩; (try first | exact ⟨rfl, _, World.drewN_drewN _ _ _⟩ | exact ⟨rfl, _, Eq.trans (World.drewN_drewN _ _ _) (congrArg (World.drewN _) (Nat.add_assoc _ _ _))⟩))); (repeat (go_quiet (first | ((with_reducible refine gate_dst (N := 1) rfl ?_); refine box_event ?hg (N := 1) ?hd (cs := #[.int .i64 a0_0, .int .i64 a0_1]) (t := 23) ?hr ?_; (case hd => rfl); (case hg => rfl); (case hr => first | (go_simp; done) | (go_simp; rfl)); intro gb603 hg w6 hbox hb; have BK603 := Aside0.mk (hbox); have GW603 := hz_ hg HB; have GE603 := hz_ hg HB; replace HB := hs HB hb; clear hb hbox hg; obtain ⟨hcz7_0, hcz7_1⟩ := bc2 BK603.out; obtain ⟨hfz7_0, hfz7_1⟩ := bf2 BK603.out) | (go_at_call 15; (with_reducible refine (ratio_Is.calls k a0_0 a0_1 true _ A2.out).mono ?_); rintro e w8 ⟨rfl, hb⟩; replace BK603 := kb BK603 hb; replace HB := Aside0.mk (below_step (by repeat first | (with_reducible exact HB.out) | refine bl1 ?_ | (with_reducible refine bset ?_ ‹_›) | exact HB.out) hb); (try clear hb); (try clear hb2); (try clear hk); (try clear hi); obtain ⟨hcz9_0, hcz9_1⟩ := bc2 BK603.out; obtain ⟨hfz9_0, hfz9_1⟩ := bf2 BK603.out) | (go_at_call 41; (with_reducible refine (strconv_FormatInt_41.calls a0_0 10 t605 _ A5.out).mono ?_); rintro e w' ⟨rfl, ⟨nd, rfl⟩⟩; (try first | exact ⟨rfl, _, World.drewN_drewN _ _ _⟩ | exact ⟨rfl, _, Eq.trans (World.drewN_drewN _ _ _) (congrArg (World.drewN _) (Nat.add_assoc _ _ _))⟩))); try go_wp2_with (first | ((with_reducible refine gate_dst (N := 1) rfl ?_); refine box_event ?hg (N := 1) ?hd (cs := #[.int .i64 a0_0, .int .i64 a0_1]) (t := 23) ?hr ?_; (case hd => rfl); (case hg => rfl); (case hr => first | (go_simp; done) | (go_simp; rfl)); intro gb603 hg w6 hbox hb; have BK603 := Aside0.mk (hbox); have GW603 := hz_ hg HB; have GE603 := hz_ hg HB; replace HB := hs HB hb; clear hb hbox hg; obtain ⟨hcz7_0, hcz7_1⟩ := bc2 BK603.out; obtain ⟨hfz7_0, hfz7_1⟩ := bf2 BK603.out) | (go_at_call 15; (with_reducible refine (ratio_Is.calls k a0_0 a0_1 true _ A2.out).mono ?_); rintro e w8 ⟨rfl, hb⟩; replace BK603 := kb BK603 hb; replace HB := Aside0.mk (below_step (by repeat first | (with_reducible exact HB.out) | refine bl1 ?_ | (with_reducible refine bset ?_ ‹_›) | exact HB.out) hb); (try clear hb); (try clear hb2); (try clear hk); (try clear hi); obtain ⟨hcz9_0, hcz9_1⟩ := bc2 BK603.out; obtain ⟨hfz9_0, hfz9_1⟩ := bf2 BK603.out) | (go_at_call 41; (with_reducible refine (strconv_FormatInt_41.calls a0_0 10 t605 _ A5.out).mono ?_); rintro e w' ⟨rfl, ⟨nd, rfl⟩⟩; (try first | exact ⟨rfl, _, World.drewN_drewN _ _ _⟩ | exact ⟨rfl, _, Eq.trans (World.drewN_drewN _ _ _) (congrArg (World.drewN _) (Nat.add_assoc _ _ _))⟩))))); go_ret; exact ⟨by first | rfl | (simp [errW_none, errW_some] <;> rfl) | (simp [*, errW_none, errW_some] <;> rfl), by repeat first | (with_reducible exact HB.out) | (with_reducible refine bset ?_ ‹_›) | refine bl1 ?_ | exact HB.out⟩
  · rw [if_neg c4] at H; cases H
 · replace c3 := Bool.eq_false_iff.mpr c3; subst c3; rw [if_neg (show ¬ (false = true) by decide)] at H; cases H
def span_open.f (k : Nat) (a0_0 : Int) (a0_1 : Int) : Option (ByteArray) := (ratio_Is.f k a0_0 a0_1).bind fun t609 => (if t609 = true then ((ratio_Text.f k a0_0 a0_1).bind fun t610 => (some t610)) else (none))
theorem span_open.mono : ∀ a0 a1 k, LeO (span_open.f k a0 a1) (span_open.f (k + 1) a0 a1) := by
 intro a0 a1 k
 unfold span_open.f
 repeat' first
   | (with_reducible exact ratio_Is.mono _ _ _)
   | (with_reducible exact ratio_Text.mono _ _ _)
   | (with_reducible exact LeO.refl _)
   | (with_reducible exact LeO.none _)
   | (with_reducible refine LeO.ite ?_ ?_)
   | (with_reducible refine LeO.bind ?_ (fun _ => ?_))
   | exact ratio_Is.mono _ _ _
   | exact ratio_Text.mono _ _ _
   | exact LeO.none _
   | refine LeO.ite ?_ ?_
   | refine LeO.bind ?_ (fun _ => ?_)
set_option maxHeartbeats 8000000 in
set_option maxRecDepth 100000 in
theorem span_open.calls (k : Nat) (a0_0 : Int) (a0_1 : Int) (r : ByteArray) (w : World) (h : span_open.f k a0_0 a0_1 = some r) :
  Calls Tryd.prog 40 #[.agg #[.int .i64 a0_0, .int .i64 a0_1]] w fun e w' => e = .returned (.string r) ∧ Below w.heap.size w w' := by
 have hu23 := Tryd.underlying23; have HB := Aside0.mk (Below.refl w.heap.size w); have H : ((ratio_Is.f k a0_0 a0_1).bind fun t609 => (if t609 = true then ((ratio_Text.f k a0_0 a0_1).bind fun t610 => (some t610)) else (none))) = some r := h; clear h; replace H := Option.bind_eq_some_iff.mp H; obtain ⟨t609, A20, H⟩ := H; (try dsimp only at H); have A2 := Aside0.mk A20; clear A20; by_cases c3 : t609 = true
 · subst c3; rw [if_pos rfl] at H; replace H := Option.bind_eq_some_iff.mp H; obtain ⟨t610, A40, H⟩ := H; (try dsimp only at H); have A4 := Aside0.mk A40; clear A40; obtain rfl := Option.some.inj H; go_enter Tryd.func40, Tryd.ntmps40; go_wp2_with (first | ((with_reducible refine gate_dst (N := 1) rfl ?_); refine box_event ?hg (N := 1) ?hd (cs := #[.int .i64 a0_0, .int .i64 a0_1]) (t := 23) ?hr ?_; (case hd => rfl); (case hg => rfl); (case hr => first | (go_simp; done) | (go_simp; rfl)); intro gb608 hg w5 hbox hb; have BK608 := Aside0.mk (hbox); have GW608 := hz_ hg HB; have GE608 := hz_ hg HB; replace HB := hs HB hb; clear hb hbox hg; obtain ⟨hcz6_0, hcz6_1⟩ := bc2 BK608.out; obtain ⟨hfz6_0, hfz6_1⟩ := bf2 BK608.out) | ((with_reducible refine gate_callee (f := 15) rfl ?_); refine goesL_ (some 4) rfl rfl Tryd.func15 (by kernel_rfl) rfl #[.agg #[.int .i64 a0_0, .int .i64 a0_1]] rfl (by (try simp only [mp]); first | done | rfl | (simp only [ld]; rfl)) ?_; (with_reducible refine (ratio_Is.calls k a0_0 a0_1 true _ A2.out).mono ?_); rintro e w7 ⟨rfl, hb⟩; refine ⟨_, rfl, ?_⟩; replace BK608 := kb BK608 hb; replace HB := Aside0.mk (below_step (by repeat first | (with_reducible exact HB.out) | refine bl1 ?_ | (with_reducible refine bset ?_ ‹_›) | exact HB.out) hb); (try clear hb); (try clear hb2); (try clear hk); (try clear hi); obtain ⟨hcz8_0, hcz8_1⟩ := bc2 BK608.out; obtain ⟨hfz8_0, hfz8_1⟩ := bf2 BK608.out) | ((with_reducible refine gate_callee (f := 67) rfl ?_); refine goesL_ (some 7) rfl rfl Tryd.func67 (by kernel_rfl) rfl #[.agg #[.int .i64 a0_0, .int .i64 a0_1]] rfl (by (try simp only [mp]); first | done | rfl | (simp only [ld]; rfl)) ?_; (with_reducible refine (ratio_Text.calls k a0_0 a0_1 t610 _ A4.out).mono ?_); rintro e w9 ⟨rfl, hb⟩; refine ⟨_, rfl, ?_⟩; replace BK608 := kb BK608 hb; replace HB := Aside0.mk (below_step (by repeat first | (with_reducible exact HB.out) | refine bl1 ?_ | (with_reducible refine bset ?_ ‹_›) | exact HB.out) hb); (try clear hb); (try clear hb2); (try clear hk); (try clear hi))); go_ret; exact ⟨by first | rfl | (simp [errW_none, errW_some] <;> rfl) | (simp [*, errW_none, errW_some] <;> rfl), by repeat first | (with_reducible exact HB.out) | (with_reducible refine bset ?_ ‹_›) | refine bl1 ?_ | exact HB.out⟩
 · replace c3 := Bool.eq_false_iff.mpr c3; subst c3; rw [if_neg (show ¬ (false = true) by decide)] at H; cases H
def span_Text.j0 : Nat → ByteArray → Int → Int → Int → Int → Int → Bool → Bool → Option (ByteArray)
 | 0, _, _, _, _, _, _, _, _ => none
 | k + 1, x3, x612000, x612001, x612002, x612003, x612004, x612005, x612006 => if x612006 = true then (none) else ((span_open.f k x612000 x612001).bind fun t619 => (if 1 + t619.size ≤ 9223372036854775807 then (if ((⟨#[91]⟩ : ByteArray) ++ t619).size + 1 ≤ 9223372036854775807 then ((span_open.f k x612002 x612003).bind fun t620 => (if (((⟨#[91]⟩ : ByteArray) ++ t619) ++ (⟨#[44]⟩ : ByteArray)).size + t620.size ≤ 9223372036854775807 then (if ((((⟨#[91]⟩ : ByteArray) ++ t619) ++ (⟨#[44]⟩ : ByteArray)) ++ t620).size + 2 ≤ 9223372036854775807 then ((strconv_FormatInt_41.f x612004 10).bind fun t621 => (if (((((⟨#[91]⟩ : ByteArray) ++ t619) ++ (⟨#[44]⟩ : ByteArray)) ++ t620) ++ (⟨#[93, 47]⟩ : ByteArray)).size + t621.size ≤ 9223372036854775807 then (if ((((((⟨#[91]⟩ : ByteArray) ++ t619) ++ (⟨#[44]⟩ : ByteArray)) ++ t620) ++ (⟨#[93, 47]⟩ : ByteArray)) ++ t621).size + x3.size ≤ 9223372036854775807 then (some (((((((⟨#[91]⟩ : ByteArray) ++ t619) ++ (⟨#[44]⟩ : ByteArray)) ++ t620) ++ (⟨#[93, 47]⟩ : ByteArray)) ++ t621) ++ x3)) else (none)) else (none))) else (none)) else (none))) else (none)) else (none)))
def span_Text.f (k : Nat) (a0_0 : Int) (a0_1 : Int) (a0_2 : Int) (a0_3 : Int) (a0_4 : Int) (a0_5 : Bool) (a0_6 : Bool) : Option (ByteArray) := (span_valid.f k a0_0 a0_1 a0_2 a0_3 a0_4 a0_5 a0_6).bind fun bt612 => (if bt612.2.2.2.2.2.1 = true then (none) else (span_Text.j0 k (⟨#[]⟩ : ByteArray) bt612.1 bt612.2.1 bt612.2.2.1 bt612.2.2.2.1 bt612.2.2.2.2.1 bt612.2.2.2.2.2.1 bt612.2.2.2.2.2.2))
theorem span_Text.mono_l : ∀ k, (∀ y0 y1 y2 y3 y4 y5 y6 y7, LeO (span_Text.j0 k y0 y1 y2 y3 y4 y5 y6 y7) (span_Text.j0 (k + 1) y0 y1 y2 y3 y4 y5 y6 y7))
 | 0 => fun _ _ _ _ _ _ _ _ r h => by simp [span_Text.j0] at h
 | k + 1 => by
  have ih0 := span_Text.mono_l k
  ·
   intro y0 y1 y2 y3 y4 y5 y6 y7
   unfold span_Text.j0
   repeat' first
   | (with_reducible exact ih0 _ _ _ _ _ _ _ _)
   | (with_reducible exact span_open.mono _ _ _)
   | (with_reducible exact span_valid.mono _ _ _ _ _ _ _ _)
   | (with_reducible exact LeO.refl _)
   | (with_reducible exact LeO.none _)
   | (with_reducible refine LeO.ite ?_ ?_)
   | (with_reducible refine LeO.bind ?_ (fun _ => ?_))
   | exact ih0 _ _ _ _ _ _ _ _
   | exact span_open.mono _ _ _
   | exact span_valid.mono _ _ _ _ _ _ _ _
   | exact LeO.none _
   | refine LeO.ite ?_ ?_
   | refine LeO.bind ?_ (fun _ => ?_)
theorem span_Text.mono : ∀ a0 a1 a2 a3 a4 a5 a6 k, LeO (span_Text.f k a0 a1 a2 a3 a4 a5 a6) (span_Text.f (k + 1) a0 a1 a2 a3 a4 a5 a6) := by
 intro a0 a1 a2 a3 a4 a5 a6 k
 have ih0 := span_Text.mono_l k
 unfold span_Text.f
 repeat' first
   | (with_reducible exact ih0 _ _ _ _ _ _ _ _)
   | (with_reducible exact span_open.mono _ _ _)
   | (with_reducible exact span_valid.mono _ _ _ _ _ _ _ _)
   | (with_reducible exact LeO.refl _)
   | (with_reducible exact LeO.none _)
   | (with_reducible refine LeO.ite ?_ ?_)
   | (with_reducible refine LeO.bind ?_ (fun _ => ?_))
   | exact ih0 _ _ _ _ _ _ _ _
   | exact span_open.mono _ _ _
   | exact span_valid.mono _ _ _ _ _ _ _ _
   | exact LeO.none _
   | refine LeO.ite ?_ ?_
   | refine LeO.bind ?_ (fun _ => ?_)
def span_Text.T7 : Bool × List (List Nat × List Nat) := (true, [([], []), ([0], [0]), ([1], [1]), ([2], [2]), ([3], [3]), ([], []), ([5], [5]), ([6, 2], [6]), ([4, 7], [4, 7]), ([8], [8]), ([], []), ([10], [10]), ([11, 7], [11]), ([9, 12], [9, 12]), ([], []), ([13, 14], [13, 14]), ([15, 12, 0, 1, 2, 3, 4, 5, 6, 7, 8, 9, 10, 11, 12, 13, 14, 15], [15])])
def span_Text.B7 : List Nat := [0, 1, 3, 7, 15, 0, 32, 103, 255, 511, 0, 1024, 3303, 8191, 0, 32767, 65535]
theorem span_Text.tab7 : rtab .any (opsOf Tryd.f23 7) = span_Text.T7 := by kernel_rfl
theorem span_Text.bits7 : waitsOk span_Text.T7.2 span_Text.B7 = true := by kernel_rfl
set_option maxHeartbeats 8000000 in
set_option maxRecDepth 100000 in
theorem span_Text.calls (k : Nat) (a0_0 : Int) (a0_1 : Int) (a0_2 : Int) (a0_3 : Int) (a0_4 : Int) (a0_5 : Bool) (a0_6 : Bool) (r : ByteArray) (w : World) (h : span_Text.f k a0_0 a0_1 a0_2 a0_3 a0_4 a0_5 a0_6 = some r) :
  Calls Tryd.prog 23 #[.agg #[.int .i64 a0_0, .int .i64 a0_1, .int .i64 a0_2, .int .i64 a0_3, .int .i64 a0_4, .bool a0_5, .bool a0_6]] w fun e w' => e = .returned (.string r) ∧ Below w.heap.size w w' := by
 have hu25 := Tryd.underlying25; have hu23 := Tryd.underlying23; have HB := Aside0.mk (Below.refl w.heap.size w); have H : ((span_valid.f k a0_0 a0_1 a0_2 a0_3 a0_4 a0_5 a0_6).bind fun bt612 => (if bt612.2.2.2.2.2.1 = true then (none) else (span_Text.j0 k (⟨#[]⟩ : ByteArray) bt612.1 bt612.2.1 bt612.2.2.1 bt612.2.2.2.1 bt612.2.2.2.2.1 bt612.2.2.2.2.2.1 bt612.2.2.2.2.2.2))) = some r := h; clear h; replace H := Option.bind_eq_some_iff.mp H; obtain ⟨⟨t612, t613, t614, t615, t616, t617, t618⟩, A20, H⟩ := H; (try dsimp only at H); have A2 := Aside0.mk A20; clear A20; have HC3 := Aside0.mk H; clear H; go_enter Tryd.func23, Tryd.ntmps23; go_upto_if 7 with (first | ((with_reducible refine gate_dst (N := 1) rfl ?_); refine box_event ?hg (N := 1) ?hd (cs := #[.int .i64 a0_0, .int .i64 a0_1, .int .i64 a0_2, .int .i64 a0_3, .int .i64 a0_4, .bool a0_5, .bool a0_6]) (t := 25) ?hr ?_; (case hd => rfl); (case hg => rfl); (case hr => first | (go_simp; done) | (go_simp; rfl)); intro gb611 hg w4 hbox hb; have BK611 := Aside0.mk (hbox); have GW611 := hz_ hg HB; have GE611 := hz_ hg HB; replace HB := hs HB hb; clear hb hbox hg; obtain ⟨hcz5_0, hcz5_1, hcz5_2, hcz5_3, hcz5_4, hcz5_5, hcz5_6⟩ := bc7 BK611.out; obtain ⟨hfz5_0, hfz5_1, hfz5_2, hfz5_3, hfz5_4, hfz5_5, hfz5_6⟩ := bf7 BK611.out) | ((with_reducible refine gate_callee (f := 24) rfl ?_); refine goesL_ (some 5) rfl rfl Tryd.func24 (by kernel_rfl) rfl #[.agg #[.int .i64 a0_0, .int .i64 a0_1, .int .i64 a0_2, .int .i64 a0_3, .int .i64 a0_4, .bool a0_5, .bool a0_6]] rfl (by (try simp only [mp]); first | done | rfl | (simp only [ld]; rfl)) ?_; (with_reducible refine (span_valid.calls k a0_0 a0_1 a0_2 a0_3 a0_4 a0_5 a0_6 t612 t613 t614 t615 t616 t617 t618 _ A2.out).mono ?_); rintro e w6 ⟨rfl, hb⟩; refine ⟨_, rfl, ?_⟩; replace BK611 := kb BK611 hb; replace HB := Aside0.mk (below_step (by repeat first | (with_reducible exact HB.out) | refine bl1 ?_ | (with_reducible refine bset ?_ ‹_›) | exact HB.out) hb); (try clear hb); (try clear hb2); (try clear hk); (try clear hi); obtain ⟨hcz7_0, hcz7_1, hcz7_2, hcz7_3, hcz7_4, hcz7_5, hcz7_6⟩ := bc7 BK611.out; obtain ⟨hfz7_0, hfz7_1, hfz7_2, hfz7_3, hfz7_4, hfz7_5, hfz7_6⟩ := bf7 BK611.out)); (try simp only [Act.put, List.setIfInBounds_toArray, List.set_cons_zero, List.set_cons_succ])
 go_cut [3] (fun v3 wc => ∃ (kq : Nat) (x3_2 : ByteArray), v3 = .string x3_2 ∧ Aside0 (span_Text.j0 kq x3_2 t612 t613 t614 t615 t616 t617 t618 = some r) ∧ Aside0 (kq ≤ k) ∧ Aside0 (wc.heap[gb611]? = some (.cells #[.int .i64 t612, .int .i64 t613, .int .i64 t614, .int .i64 t615, .int .i64 t616, .bool t617, .bool t618] 25 (0, 0))) ∧ Aside0 (Below w.heap.size w wc))
 case first =>
  have H := HC3.out; clear HC3; by_cases c8 : t617 = true
  · subst c8; rw [if_pos rfl] at H; cases H
  ·
   replace c8 := Bool.eq_false_iff.mpr c8; subst c8; rw [if_neg (show ¬ (false = true) by decide)] at H; have H' := Aside0.mk H; clear H; go_wp2; go_meet
   case rel => exact ⟨_, ((⟨#[]⟩ : ByteArray)), (by first | rfl | (simp; done) | (simp [*]; done)), H', ⟨by first | omega | exact Nat.le_refl _⟩, ⟨by exact rq BK611.out (by rfl)⟩, ⟨by repeat first | (with_reducible exact HB.out) | (with_reducible refine bset ?_ ‹_›) | refine bl1 ?_ | exact HB.out⟩⟩
 case rest =>
  clear HC3; (try clear c2); (try clear p2); (try clear c8); (try clear hcz5_0); (try clear hcz5_1); (try clear hcz5_2); (try clear hcz5_3); (try clear hcz5_4); (try clear hcz5_5); (try clear hcz5_6); (try clear hcz7_0); (try clear hcz7_1); (try clear hcz7_2); (try clear hcz7_3); (try clear hcz7_4); (try clear hcz7_5); (try clear hcz7_6); (try clear hfz5_0); (try clear hfz5_1); (try clear hfz5_2); (try clear hfz5_3); (try clear hfz5_4); (try clear hfz5_5); (try clear hfz5_6); (try clear hfz7_0); (try clear hfz7_1); (try clear hfz7_2); (try clear hfz7_3); (try clear hfz7_4); (try clear hfz7_5); (try clear hfz7_6); obtain ⟨kq, x3_2, rfl, HA, HJ2, BK611, HB⟩ := hcut; cases kq with
  | zero => exact absurd HA.out (by simp [span_Text.j0])
  | succ kj2 =>
   have H := HA.out; clear HA; simp only [span_Text.j0] at H; by_cases c9 : t618 = true
   · subst c9; rw [if_pos rfl] at H; cases H
   ·
    replace c9 := Bool.eq_false_iff.mpr c9; subst c9; rw [if_neg (show ¬ (false = true) by decide)] at H; replace H := Option.bind_eq_some_iff.mp H; obtain ⟨t619, A120, H⟩ := H; (try dsimp only at H); have A12 := Aside0.mk A120; clear A120; by_cases c13 : 1 + t619.size ≤ 9223372036854775807
    ·
     rw [if_pos c13] at H; have c13b0 := eq_true c13; have c13b1 : decide (1 + t619.size ≤ 9223372036854775807) = true := decide_eq_true c13; (try have c13b2 : (9223372036854775807 < 1 + t619.size) = False := eq_false (Nat.not_lt.2 c13)); by_cases c14 : ((⟨#[91]⟩ : ByteArray) ++ t619).size + 1 ≤ 9223372036854775807
     ·
      rw [if_pos c14] at H; have c14b0 := eq_true c14; have c14s : (9223372036854775807 < 1 + t619.size + 1) = False := eq_false (by have h_ := c14; simp only [ByteArray.size_append] at h_; have e0 : (⟨#[91]⟩ : ByteArray).size = 1 := rfl; omega); have c14b1 : decide (((⟨#[91]⟩ : ByteArray) ++ t619).size + 1 ≤ 9223372036854775807) = true := decide_eq_true c14; (try have c14b2 : (9223372036854775807 < ((⟨#[91]⟩ : ByteArray) ++ t619).size + 1) = False := eq_false (Nat.not_lt.2 c14)); replace H := Option.bind_eq_some_iff.mp H; obtain ⟨t620, A150, H⟩ := H; (try dsimp only at H); have A15 := Aside0.mk A150; clear A150; by_cases c16 : (((⟨#[91]⟩ : ByteArray) ++ t619) ++ (⟨#[44]⟩ : ByteArray)).size + t620.size ≤ 9223372036854775807
      ·
       rw [if_pos c16] at H; have c16b0 := eq_true c16; have c16s : (9223372036854775807 < 1 + t619.size + 1 + t620.size) = False := eq_false (by have h_ := c16; simp only [ByteArray.size_append] at h_; have e0 : (⟨#[44]⟩ : ByteArray).size = 1 := rfl; have e1 : (⟨#[91]⟩ : ByteArray).size = 1 := rfl; omega); have c16b1 : decide ((((⟨#[91]⟩ : ByteArray) ++ t619) ++ (⟨#[44]⟩ : ByteArray)).size + t620.size ≤ 9223372036854775807) = true := decide_eq_true c16; (try have c16b2 : (9223372036854775807 < (((⟨#[91]⟩ : ByteArray) ++ t619) ++ (⟨#[44]⟩ : ByteArray)).size + t620.size) = False := eq_false (Nat.not_lt.2 c16)); by_cases c17 : ((((⟨#[91]⟩ : ByteArray) ++ t619) ++ (⟨#[44]⟩ : ByteArray)) ++ t620).size + 2 ≤ 9223372036854775807
       ·
        rw [if_pos c17] at H; have c17b0 := eq_true c17; have c17s : (9223372036854775807 < 1 + t619.size + 1 + t620.size + 2) = False := eq_false (by have h_ := c17; simp only [ByteArray.size_append] at h_; have e0 : (⟨#[44]⟩ : ByteArray).size = 1 := rfl; have e1 : (⟨#[91]⟩ : ByteArray).size = 1 := rfl; omega); have c17b1 : decide (((((⟨#[91]⟩ : ByteArray) ++ t619) ++ (⟨#[44]⟩ : ByteArray)) ++ t620).size + 2 ≤ 9223372036854775807) = true := decide_eq_true c17; (try have c17b2 : (9223372036854775807 < ((((⟨#[91]⟩ : ByteArray) ++ t619) ++ (⟨#[44]⟩ : ByteArray)) ++ t620).size + 2) = False := eq_false (Nat.not_lt.2 c17)); replace H := Option.bind_eq_some_iff.mp H; obtain ⟨t621, A180, H⟩ := H; (try dsimp only at H); have A18 := Aside0.mk A180; clear A180; by_cases c19 : (((((⟨#[91]⟩ : ByteArray) ++ t619) ++ (⟨#[44]⟩ : ByteArray)) ++ t620) ++ (⟨#[93, 47]⟩ : ByteArray)).size + t621.size ≤ 9223372036854775807
        ·
         rw [if_pos c19] at H; have c19b0 := eq_true c19; have c19s : (9223372036854775807 < 1 + t619.size + 1 + t620.size + 2 + t621.size) = False := eq_false (by have h_ := c19; simp only [ByteArray.size_append] at h_; have e0 : (⟨#[44]⟩ : ByteArray).size = 1 := rfl; have e1 : (⟨#[91]⟩ : ByteArray).size = 1 := rfl; have e2 : (⟨#[93, 47]⟩ : ByteArray).size = 2 := rfl; omega); have c19b1 : decide ((((((⟨#[91]⟩ : ByteArray) ++ t619) ++ (⟨#[44]⟩ : ByteArray)) ++ t620) ++ (⟨#[93, 47]⟩ : ByteArray)).size + t621.size ≤ 9223372036854775807) = true := decide_eq_true c19; (try have c19b2 : (9223372036854775807 < (((((⟨#[91]⟩ : ByteArray) ++ t619) ++ (⟨#[44]⟩ : ByteArray)) ++ t620) ++ (⟨#[93, 47]⟩ : ByteArray)).size + t621.size) = False := eq_false (Nat.not_lt.2 c19)); by_cases c20 : ((((((⟨#[91]⟩ : ByteArray) ++ t619) ++ (⟨#[44]⟩ : ByteArray)) ++ t620) ++ (⟨#[93, 47]⟩ : ByteArray)) ++ t621).size + x3_2.size ≤ 9223372036854775807
         ·
          rw [if_pos c20] at H; have c20b0 := eq_true c20; have c20s : (9223372036854775807 < 1 + t619.size + 1 + t620.size + 2 + t621.size + x3_2.size) = False := eq_false (by have h_ := c20; simp only [ByteArray.size_append] at h_; have e0 : (⟨#[44]⟩ : ByteArray).size = 1 := rfl; have e1 : (⟨#[91]⟩ : ByteArray).size = 1 := rfl; have e2 : (⟨#[93, 47]⟩ : ByteArray).size = 2 := rfl; omega); have c20b1 : decide (((((((⟨#[91]⟩ : ByteArray) ++ t619) ++ (⟨#[44]⟩ : ByteArray)) ++ t620) ++ (⟨#[93, 47]⟩ : ByteArray)) ++ t621).size + x3_2.size ≤ 9223372036854775807) = true := decide_eq_true c20; (try have c20b2 : (9223372036854775807 < ((((((⟨#[91]⟩ : ByteArray) ++ t619) ++ (⟨#[44]⟩ : ByteArray)) ++ t620) ++ (⟨#[93, 47]⟩ : ByteArray)) ++ t621).size + x3_2.size) = False := eq_false (Nat.not_lt.2 c20)); obtain rfl := Option.some.inj H; obtain ⟨hcz21_0, hcz21_1, hcz21_2, hcz21_3, hcz21_4, hcz21_5, hcz21_6⟩ := bc7 BK611.out; obtain ⟨hfz21_0, hfz21_1, hfz21_2, hfz21_3, hfz21_4, hfz21_5, hfz21_6⟩ := bf7 BK611.out; (try go_wp2); replace BK611 := kd BK611; replace HB := Aside0.mk (below_drew1 HB.out); refine start_ (n := 17) (S := fun w' => w'.cell? ⟨gb611, 0, none⟩ = some (.int .i64 t612) ∧ w'.cell? ⟨gb611, 1, none⟩ = some (.int .i64 t613) ∧ w'.cell? ⟨gb611, 2, none⟩ = some (.int .i64 t614) ∧ w'.cell? ⟨gb611, 3, none⟩ = some (.int .i64 t615) ∧ w'.cell? ⟨gb611, 4, none⟩ = some (.int .i64 t616) ∧ w'.cell? ⟨gb611, 5, none⟩ = some (.bool t617) ∧ w'.cell? ⟨gb611, 6, none⟩ = some (.bool false)) (ds := []) (bA 17 0) (by kernel_rfl) rfl rfl ⟨(blk_cell BK611.out 0).trans rfl, (blk_cell BK611.out 1).trans rfl, (blk_cell BK611.out 2).trans rfl, (blk_cell BK611.out 3).trans rfl, (blk_cell BK611.out 4).trans rfl, (blk_cell BK611.out 5).trans rfl, (blk_cell BK611.out 6).trans rfl⟩ (fun hHeld => ?_); refine with_tabW span_Text.tab7 span_Text.bits7 (fun HT_ HW_ => ?_); generalize wc.drew = w22 at BK611 HB hHeld ⊢; have hH0 := hHeld; have HBW := hbw w22; refine pure_ (i := 0) (N := some 12) (v := ?_) (a' := ?_) (bA 17 1) rfl rfl (any_of HT_.out (by kernel_rfl)) (fun _ _ _ h => h) (Or.inl ⟨by rfl, ?_⟩) ?_ ?_; rotate_left
          · intro w'; go_simp; with_reducible rfl
          rotate_left
          · simp only [ap]; rfl
          refine pure_ (i := 5) (N := some 17) (v := ?_) (a' := ?_) (bA 17 33) rfl rfl (any_of HT_.out (by kernel_rfl)) (fun _ _ _ h => h) (Or.inl ⟨by rfl, ?_⟩) ?_ ?_; rotate_left
          · intro w'; go_simp; with_reducible rfl
          rotate_left
          · simp only [ap]; rfl
          refine pure_ (i := 10) (N := some 22) (v := ?_) (a' := ?_) (bA 17 1057) rfl rfl (any_of HT_.out (by kernel_rfl)) (fun _ _ _ h => h) (Or.inl ⟨by rfl, ?_⟩) ?_ ?_; rotate_left
          · intro w'; go_simp; with_reducible rfl
          rotate_left
          · simp only [ap]; rfl
          refine pure_ (i := 14) (N := some 26) (v := ?_) (a' := ?_) (bA 17 17441) rfl rfl (any_of HT_.out (by kernel_rfl)) (fun _ _ _ h => h) (Or.inl ⟨by rfl, ?_⟩) ?_ ?_; rotate_left
          · intro w'; go_simp; with_reducible rfl
          rotate_left
          · simp only [ap]; rfl
          refine take_ (i := 1) (N := some 13) (v := ?_) (a' := ?_) (bA 17 17443) rfl rfl (take_ofW HT_.out HW_.out (by kernel_rfl)) (fun _ _ _ h => h) (Or.inl ⟨by rfl, ?_⟩) hHeld ?_ ?_; rotate_left
          · rintro w' ⟨s0, s1, s2, s3, s4, s5, s6⟩; go_simp; with_reducible rfl
          rotate_left
          · simp only [ap]; rfl
          refine take_ (i := 6) (N := some 18) (v := ?_) (a' := ?_) (bA 17 17507) rfl rfl (take_ofW HT_.out HW_.out (by kernel_rfl)) (fun _ _ _ h => h) (Or.inl ⟨by rfl, ?_⟩) hHeld ?_ ?_; rotate_left
          · rintro w' ⟨s0, s1, s2, s3, s4, s5, s6⟩; go_simp; with_reducible rfl
          rotate_left
          · simp only [ap]; rfl
          refine take_ (i := 11) (N := some 23) (v := ?_) (a' := ?_) (bA 17 19555) rfl rfl (take_ofW HT_.out HW_.out (by kernel_rfl)) (fun _ _ _ h => h) (Or.inl ⟨by rfl, ?_⟩) hHeld ?_ ?_; rotate_left
          · rintro w' ⟨s0, s1, s2, s3, s4, s5, s6⟩; go_simp; with_reducible rfl
          rotate_left
          · simp only [ap]; rfl
          refine one_ (i := 2) (N := some 14) (bA 17 19559) rfl rfl (one_of HT_.out (by kernel_rfl)) (by decide) (fun K hK => ?_); refine goes_ Tryd.func40 (by kernel_rfl) rfl #[.agg #[.int .i64 t612, .int .i64 t613]] (by rfl) rfl rfl (by (try simp only [mp]); first | done | rfl | (simp only [ld]; rfl)) ?_; (with_reducible refine (span_open.calls kj2 t612 t613 t619 _ A12.out).mono ?_); rintro e w23 ⟨rfl, hb⟩; refine ⟨_, rfl, ?_⟩; replace HBW := hs HBW hb; clear hb; refine hK.out _ _ (hs7 HBW.out hH0) (fun hHeld => ?_); clear hK K; refine norm_ (a' := ?_) ?_ ?_; rotate_left
          · (show Act.put _ (some 14) _ = _); simp only [ap]; rfl
          refine pure_ (i := 3) (N := some 15) (v := ?_) (a' := ?_) (bA 17 19567) rfl rfl (any_of HT_.out (by kernel_rfl)) (fun _ _ _ h => h) (Or.inl ⟨by rfl, ?_⟩) ?_ ?_; rotate_left
          · intro w'; go_simp; with_reducible rfl
          rotate_left
          · simp only [ap]; rfl
          refine pure_ (i := 4) (N := some 16) (v := ?_) (a' := ?_) (bA 17 19583) rfl rfl (any_of HT_.out (by kernel_rfl)) (fun _ _ _ h => h) (Or.inl ⟨by rfl, ?_⟩) ?_ ?_; rotate_left
          · intro w'; go_simp; with_reducible rfl
          rotate_left
          · simp only [ap]; rfl
          refine one_ (i := 7) (N := some 19) (bA 17 19711) rfl rfl (one_of HT_.out (by kernel_rfl)) (by decide) (fun K hK => ?_); refine goes_ Tryd.func40 (by kernel_rfl) rfl #[.agg #[.int .i64 t614, .int .i64 t615]] (by rfl) rfl rfl (by (try simp only [mp]); first | done | rfl | (simp only [ld]; rfl)) ?_; (with_reducible refine (span_open.calls kj2 t614 t615 t620 _ A15.out).mono ?_); rintro e w24 ⟨rfl, hb⟩; refine ⟨_, rfl, ?_⟩; replace HBW := hs HBW hb; clear hb; refine hK.out _ _ (hs7 HBW.out hH0) (fun hHeld => ?_); clear hK K; refine norm_ (a' := ?_) ?_ ?_; rotate_left
          · (show Act.put _ (some 19) _ = _); simp only [ap]; rfl
          refine pure_ (i := 8) (N := some 20) (v := ?_) (a' := ?_) (bA 17 19967) rfl rfl (any_of HT_.out (by kernel_rfl)) (fun _ _ _ h => h) (Or.inl ⟨by rfl, ?_⟩) ?_ ?_; rotate_left
          · intro w'; go_simp; with_reducible rfl
          rotate_left
          · simp only [ap]; rfl
          refine pure_ (i := 9) (N := some 21) (v := ?_) (a' := ?_) (bA 17 20479) rfl rfl (any_of HT_.out (by kernel_rfl)) (fun _ _ _ h => h) (Or.inl ⟨by rfl, ?_⟩) ?_ ?_; rotate_left
          · intro w'; go_simp; with_reducible rfl
          rotate_left
          · simp only [ap]; rfl
          refine one_ (i := 12) (N := some 24) (bA 17 24575) rfl rfl (one_of HT_.out (by kernel_rfl)) (by decide) (fun K hK => ?_); refine goes_ Tryd.func41 (by kernel_rfl) rfl #[.int .i64 t616, .int .i64 10] (by rfl) rfl rfl (by (try simp only [mp]); first | done | rfl | (simp only [ld]; rfl)) ?_; (with_reducible refine (strconv_FormatInt_41.calls t616 10 t621 _ A18.out).mono ?_); rintro e w' ⟨rfl, ⟨nd, rfl⟩⟩; refine ⟨_, rfl, ?_⟩; refine hK.out _ _ (hs7 (bl HBW.out) hH0) (fun hHeld => ?_); clear hK K; refine norm_ (a' := ?_) ?_ ?_; rotate_left
          · (show Act.put _ (some 24) _ = _); simp only [ap]; rfl
          refine pure_ (i := 13) (N := some 25) (v := ?_) (a' := ?_) (bA 17 32767) rfl rfl (any_of HT_.out (by kernel_rfl)) (fun _ _ _ h => h) (Or.inl ⟨by rfl, ?_⟩) ?_ ?_; rotate_left
          · intro w'; go_simp; with_reducible rfl
          rotate_left
          · simp only [ap]; rfl
          refine pure_ (i := 15) (N := some 27) (v := ?_) (a' := ?_) (bA 17 65535) rfl rfl (any_of HT_.out (by kernel_rfl)) (fun _ _ _ h => h) (Or.inl ⟨by rfl, ?_⟩) ?_ ?_; rotate_left
          · intro w'; go_simp; with_reducible rfl
          rotate_left
          · simp only [ap]; rfl
          refine pure_ (i := 16) (N := some 2) (v := ?_) (a' := ?_) (bA 17 131071) rfl rfl (any_of HT_.out (by kernel_rfl)) (fun _ _ _ h => h) (Or.inl ⟨by rfl, ?_⟩) ?_ ?_; rotate_left
          · intro w'; go_simp; with_reducible rfl
          rotate_left
          · simp only [ap]; rfl
          replace BK611 := kb BK611 HBW.out; replace HB := hs HB HBW.out; refine done_ (done_of HT_.out (by kernel_rfl)) ?_; clear HBW hH0; (try go_wp2); go_ret; exact ⟨by first | rfl | (simp [errW_none, errW_some] <;> rfl) | (simp [*, errW_none, errW_some] <;> rfl), by repeat first | (with_reducible exact HB.out) | (with_reducible refine bset ?_ ‹_›) | refine bl1 ?_ | exact HB.out⟩
         · rw [if_neg c20] at H; exact absurd H (by simp)
        · rw [if_neg c19] at H; exact absurd H (by simp)
       · rw [if_neg c17] at H; exact absurd H (by simp)
      · rw [if_neg c16] at H; exact absurd H (by simp)
     · rw [if_neg c14] at H; exact absurd H (by simp)
    · rw [if_neg c13] at H; exact absurd H (by simp)
def serinettelaw03_awake.f (k : Nat)  : Option (Bool) := (serinetteref01_Whole.f k 0).bind fun bt622 => ((serinetteref01_Whole.f k 1).bind fun bt624 => ((span_Make.f k bt622.1 bt622.2 bt624.1 bt624.2 2).bind fun bt626 => ((serinetteref01_Whole.f k 0).bind fun bt634 => ((serinetteref01_Whole.f k 1).bind fun bt636 => ((span_Make.f k bt634.1 bt634.2 bt636.1 bt636.2 3).bind fun bt638 => ((span_Op.f k (⟨#[97, 100, 100]⟩ : ByteArray) (([(⟨(⟨bt626.1, bt626.2.1⟩ : S23), (⟨bt626.2.2.1, bt626.2.2.2.1⟩ : S23), bt626.2.2.2.2.1, bt626.2.2.2.2.2.1, bt626.2.2.2.2.2.2⟩ : S25), (⟨(⟨bt638.1, bt638.2.1⟩ : S23), (⟨bt638.2.2.1, bt638.2.2.2.1⟩ : S23), bt638.2.2.2.2.1, bt638.2.2.2.2.2.1, bt638.2.2.2.2.2.2⟩ : S25)] : List (S25)))).bind fun bt649 => (if bt649.2.2.2.2.2.2.2 = 0 then ((span_Text.f k bt649.1 bt649.2.1 bt649.2.2.1 bt649.2.2.2.1 bt649.2.2.2.2.1 bt649.2.2.2.2.2.1 bt649.2.2.2.2.2.2.1).bind fun t658 => (if t658.toList = ([91, 48, 44, 50, 93, 47, 54] : List UInt8) then ((span_Has.f k bt649.1 bt649.2.1 bt649.2.2.1 bt649.2.2.2.1 bt649.2.2.2.2.1 bt649.2.2.2.2.2.1 bt649.2.2.2.2.2.2.1 5 6).bind fun t659 => (if t659 = true then ((span_Has.f k bt649.1 bt649.2.1 bt649.2.2.1 bt649.2.2.2.1 bt649.2.2.2.2.1 bt649.2.2.2.2.2.1 bt649.2.2.2.2.2.2.1 5 4).bind fun t660 => (some (!t660))) else (none))) else (none))) else (none))))))))
theorem serinettelaw03_awake.mono : ∀ k, LeO (serinettelaw03_awake.f k ) (serinettelaw03_awake.f (k + 1) ) := by
 intro  k
 unfold serinettelaw03_awake.f
 repeat' first
   | (with_reducible exact serinetteref01_Whole.mono _ _)
   | (with_reducible exact span_Has.mono _ _ _ _ _ _ _ _ _ _)
   | (with_reducible exact span_Make.mono _ _ _ _ _ _)
   | (with_reducible exact span_Op.mono _ _ _)
   | (with_reducible exact span_Text.mono _ _ _ _ _ _ _ _)
   | (with_reducible exact LeO.refl _)
   | (with_reducible exact LeO.none _)
   | (with_reducible refine LeO.ite ?_ ?_)
   | (with_reducible refine LeO.bind ?_ (fun _ => ?_))
   | exact serinetteref01_Whole.mono _ _
   | exact span_Has.mono _ _ _ _ _ _ _ _ _ _
   | exact span_Make.mono _ _ _ _ _ _
   | exact span_Op.mono _ _ _
   | exact span_Text.mono _ _ _ _ _ _ _ _
   | exact LeO.none _
   | refine LeO.ite ?_ ?_
   | refine LeO.bind ?_ (fun _ => ?_)
set_option maxHeartbeats 8000000 in
set_option maxRecDepth 100000 in
theorem serinettelaw03_awake.calls (k : Nat)  (r : Bool) (w : World) (h : serinettelaw03_awake.f k  = some r) :
  Calls Tryd.prog 7 #[] w fun e w' => e = .returned (.bool r) ∧ Below w.heap.size w w' := by
 have hu25 := Tryd.underlying25; have hu23 := Tryd.underlying23; have HB := Aside0.mk (Below.refl w.heap.size w); have H : ((serinetteref01_Whole.f k 0).bind fun bt622 => ((serinetteref01_Whole.f k 1).bind fun bt624 => ((span_Make.f k bt622.1 bt622.2 bt624.1 bt624.2 2).bind fun bt626 => ((serinetteref01_Whole.f k 0).bind fun bt634 => ((serinetteref01_Whole.f k 1).bind fun bt636 => ((span_Make.f k bt634.1 bt634.2 bt636.1 bt636.2 3).bind fun bt638 => ((span_Op.f k (⟨#[97, 100, 100]⟩ : ByteArray) (([(⟨(⟨bt626.1, bt626.2.1⟩ : S23), (⟨bt626.2.2.1, bt626.2.2.2.1⟩ : S23), bt626.2.2.2.2.1, bt626.2.2.2.2.2.1, bt626.2.2.2.2.2.2⟩ : S25), (⟨(⟨bt638.1, bt638.2.1⟩ : S23), (⟨bt638.2.2.1, bt638.2.2.2.1⟩ : S23), bt638.2.2.2.2.1, bt638.2.2.2.2.2.1, bt638.2.2.2.2.2.2⟩ : S25)] : List (S25)))).bind fun bt649 => (if bt649.2.2.2.2.2.2.2 = 0 then ((span_Text.f k bt649.1 bt649.2.1 bt649.2.2.1 bt649.2.2.2.1 bt649.2.2.2.2.1 bt649.2.2.2.2.2.1 bt649.2.2.2.2.2.2.1).bind fun t658 => (if t658.toList = ([91, 48, 44, 50, 93, 47, 54] : List UInt8) then ((span_Has.f k bt649.1 bt649.2.1 bt649.2.2.1 bt649.2.2.2.1 bt649.2.2.2.2.1 bt649.2.2.2.2.2.1 bt649.2.2.2.2.2.2.1 5 6).bind fun t659 => (if t659 = true then ((span_Has.f k bt649.1 bt649.2.1 bt649.2.2.1 bt649.2.2.2.1 bt649.2.2.2.2.1 bt649.2.2.2.2.2.1 bt649.2.2.2.2.2.2.1 5 4).bind fun t660 => (some (!t660))) else (none))) else (none))) else (none))))))))) = some r := h; clear h; replace H := Option.bind_eq_some_iff.mp H; obtain ⟨⟨t622, t623⟩, A10, H⟩ := H; (try dsimp only at H); have A1 := Aside0.mk A10; clear A10; replace H := Option.bind_eq_some_iff.mp H; obtain ⟨⟨t624, t625⟩, A20, H⟩ := H; (try dsimp only at H); have A2 := Aside0.mk A20; clear A20; replace H := Option.bind_eq_some_iff.mp H; obtain ⟨⟨t626, t627, t628, t629, t630, t631, t632⟩, A30, H⟩ := H; (try dsimp only at H); have A3 := Aside0.mk A30; clear A30; replace H := Option.bind_eq_some_iff.mp H; obtain ⟨⟨t634, t635⟩, A40, H⟩ := H; (try dsimp only at H); have A4 := Aside0.mk A40; clear A40; replace H := Option.bind_eq_some_iff.mp H; obtain ⟨⟨t636, t637⟩, A50, H⟩ := H; (try dsimp only at H); have A5 := Aside0.mk A50; clear A50; replace H := Option.bind_eq_some_iff.mp H; obtain ⟨⟨t638, t639, t640, t641, t642, t643, t644⟩, A60, H⟩ := H; (try dsimp only at H); have A6 := Aside0.mk A60; clear A60; obtain ⟨y646, hy646⟩ : ∃ y_ : List (S25), y_ = (([(⟨(⟨t626, t627⟩ : S23), (⟨t628, t629⟩ : S23), t630, t631, t632⟩ : S25), (⟨(⟨t638, t639⟩ : S23), (⟨t640, t641⟩ : S23), t642, t643, t644⟩ : S25)] : List (S25))) := ⟨_, rfl⟩; (replace H : ((span_Op.f k (⟨#[97, 100, 100]⟩ : ByteArray) y646).bind fun bt649 => (if bt649.2.2.2.2.2.2.2 = 0 then ((span_Text.f k bt649.1 bt649.2.1 bt649.2.2.1 bt649.2.2.2.1 bt649.2.2.2.2.1 bt649.2.2.2.2.2.1 bt649.2.2.2.2.2.2.1).bind fun t658 => (if t658.toList = ([91, 48, 44, 50, 93, 47, 54] : List UInt8) then ((span_Has.f k bt649.1 bt649.2.1 bt649.2.2.1 bt649.2.2.2.1 bt649.2.2.2.2.1 bt649.2.2.2.2.2.1 bt649.2.2.2.2.2.2.1 5 6).bind fun t659 => (if t659 = true then ((span_Has.f k bt649.1 bt649.2.1 bt649.2.2.1 bt649.2.2.2.1 bt649.2.2.2.2.1 bt649.2.2.2.2.2.1 bt649.2.2.2.2.2.2.1 5 4).bind fun t660 => (some (!t660))) else (none))) else (none))) else (none))) = some r := by first | (rw [hy646]; with_reducible exact H) | (have H2_ := (Option.bind_some _ _).symm.trans H; rw [hy646]; with_reducible exact H2_) | (have H2_ := (Option.bind_some _ _).symm.trans H; with_reducible exact H2_) | with_reducible exact H | (rw [hy646]; exact H) | exact H); have Ny646 := Aside0.mk hy646; clear hy646; replace H := Option.bind_eq_some_iff.mp H; obtain ⟨⟨t649, t650, t651, t652, t653, t654, t655, t656⟩, A70, H⟩ := H; (try dsimp only at H); have A7 := Aside0.mk A70; clear A70; by_cases c8 : t656 = 0
 ·
  rw [if_pos c8] at H; have c8b0 : (t656 == 0) = true := beq_iff_eq.mpr c8; have c8b1 : (t656 != 0) = false := bne_eq_false_iff_eq.mpr c8; clear c8; replace H := Option.bind_eq_some_iff.mp H; obtain ⟨t658, A90, H⟩ := H; (try dsimp only at H); have A9 := Aside0.mk A90; clear A90; by_cases c10 : t658.toList = ([91, 48, 44, 50, 93, 47, 54] : List UInt8)
  ·
   rw [if_pos c10] at H; have c10b0 : (t658.toList == ([91, 48, 44, 50, 93, 47, 54] : List UInt8)) = true := beq_iff_eq.mpr c10; have c10b1 : (t658.toList != ([91, 48, 44, 50, 93, 47, 54] : List UInt8)) = false := bne_eq_false_iff_eq.mpr c10; clear c10; replace H := Option.bind_eq_some_iff.mp H; obtain ⟨t659, A110, H⟩ := H; (try dsimp only at H); have A11 := Aside0.mk A110; clear A110; by_cases c12 : t659 = true
   · subst c12; rw [if_pos rfl] at H; replace H := Option.bind_eq_some_iff.mp H; obtain ⟨t660, A130, H⟩ := H; (try dsimp only at H); have A13 := Aside0.mk A130; clear A130; obtain rfl := Option.some.inj H; go_enter Tryd.func7, Tryd.ntmps7; go_wp2_with (first | ((with_reducible refine gate_callee (f := 21) rfl ?_); refine goesL_ (some 5) rfl rfl Tryd.func21 (by kernel_rfl) rfl #[.int .i64 0] rfl (by (try simp only [mp]); first | done | rfl | (simp only [ld]; rfl)) ?_; (with_reducible refine (serinetteref01_Whole.calls k 0 t622 t623 _ A1.out).mono ?_); rintro e w14 ⟨rfl, hb⟩; refine ⟨_, rfl, ?_⟩; replace HB := hs HB hb; (try clear hb); (try clear hb2); (try clear hk); (try clear hi)) | ((with_reducible refine gate_callee (f := 21) rfl ?_); refine goesL_ (some 6) rfl rfl Tryd.func21 (by kernel_rfl) rfl #[.int .i64 1] rfl (by (try simp only [mp]); first | done | rfl | (simp only [ld]; rfl)) ?_; (with_reducible refine (serinetteref01_Whole.calls k 1 t624 t625 _ A2.out).mono ?_); rintro e w15 ⟨rfl, hb⟩; refine ⟨_, rfl, ?_⟩; replace HB := hs HB hb; (try clear hb); (try clear hb2); (try clear hk); (try clear hi)) | ((with_reducible refine gate_callee (f := 5) rfl ?_); refine goesL_ (some 7) rfl rfl Tryd.func5 (by kernel_rfl) rfl #[.agg #[.int .i64 t622, .int .i64 t623], .agg #[.int .i64 t624, .int .i64 t625], .int .i64 2] rfl (by (try simp only [mp]); first | done | rfl | (simp only [ld]; rfl)) ?_; (with_reducible refine (span_Make.calls k t622 t623 t624 t625 2 t626 t627 t628 t629 t630 t631 t632 _ A3.out).mono ?_); rintro e w16 ⟨rfl, hb⟩; refine ⟨_, rfl, ?_⟩; replace HB := hs HB hb; (try clear hb); (try clear hb2); (try clear hk); (try clear hi)) | ((with_reducible refine gate_dst (N := 1) rfl ?_); refine box_event ?hg (N := 1) ?hd (cs := #[.int .i64 0, .int .i64 0, .int .i64 0, .int .i64 0, .int .i64 0, .bool false, .bool false]) (t := 25) ?hr ?_; (case hd => rfl); (case hg => rfl); (case hr => first | (go_simp; done) | (go_simp; rfl)); intro gb633 hg w17 hbox hb; have BK633 := Aside0.mk (hbox); have GW633 := hz_ hg HB; have GE633 := hz_ hg HB; replace HB := hs HB hb; clear hb hbox hg; obtain ⟨hcz18_0, hcz18_1, hcz18_2, hcz18_3, hcz18_4, hcz18_5, hcz18_6⟩ := bc7 BK633.out; obtain ⟨hfz18_0, hfz18_1, hfz18_2, hfz18_3, hfz18_4, hfz18_5, hfz18_6⟩ := bf7 BK633.out) | ((with_reducible refine gate_callee (f := 21) rfl ?_); refine goesL_ (some 8) rfl rfl Tryd.func21 (by kernel_rfl) rfl #[.int .i64 0] rfl (by (try simp only [mp]); first | done | rfl | (simp only [ld]; rfl)) ?_; (with_reducible refine (serinetteref01_Whole.calls k 0 t634 t635 _ A4.out).mono ?_); rintro e w19 ⟨rfl, hb⟩; refine ⟨_, rfl, ?_⟩; replace BK633 := Aside0.mk (blk_below (g := gb633) (o := .cells #[.int .i64 t626, .int .i64 t627, .int .i64 t628, .int .i64 t629, .int .i64 t630, .bool t631, .bool t632] 25 (0, 0)) (by exact rq BK633.out (by rfl)) hb); replace HB := Aside0.mk (below_step (by repeat first | (with_reducible exact HB.out) | refine bl1 ?_ | (with_reducible refine bset ?_ ‹_›) | exact HB.out) hb); (try clear hb); (try clear hb2); (try clear hk); (try clear hi)) | ((with_reducible refine gate_callee (f := 21) rfl ?_); refine goesL_ (some 9) rfl rfl Tryd.func21 (by kernel_rfl) rfl #[.int .i64 1] rfl (by (try simp only [mp]); first | done | rfl | (simp only [ld]; rfl)) ?_; (with_reducible refine (serinetteref01_Whole.calls k 1 t636 t637 _ A5.out).mono ?_); rintro e w20 ⟨rfl, hb⟩; refine ⟨_, rfl, ?_⟩; replace BK633 := kb BK633 hb; replace HB := Aside0.mk (below_step (by repeat first | (with_reducible exact HB.out) | refine bl1 ?_ | (with_reducible refine bset ?_ ‹_›) | exact HB.out) hb); (try clear hb); (try clear hb2); (try clear hk); (try clear hi)) | ((with_reducible refine gate_callee (f := 5) rfl ?_); refine goesL_ (some 10) rfl rfl Tryd.func5 (by kernel_rfl) rfl #[.agg #[.int .i64 t634, .int .i64 t635], .agg #[.int .i64 t636, .int .i64 t637], .int .i64 3] rfl (by (try simp only [mp]); first | done | rfl | (simp only [ld]; rfl)) ?_; (with_reducible refine (span_Make.calls k t634 t635 t636 t637 3 t638 t639 t640 t641 t642 t643 t644 _ A6.out).mono ?_); rintro e w21 ⟨rfl, hb⟩; refine ⟨_, rfl, ?_⟩; replace BK633 := kb BK633 hb; replace HB := Aside0.mk (below_step (by repeat first | (with_reducible exact HB.out) | refine bl1 ?_ | (with_reducible refine bset ?_ ‹_›) | exact HB.out) hb); (try clear hb); (try clear hb2); (try clear hk); (try clear hi)) | ((with_reducible refine gate_dst (N := 2) rfl ?_); refine box_event ?hg (N := 2) ?hd (cs := #[.int .i64 0, .int .i64 0, .int .i64 0, .int .i64 0, .int .i64 0, .bool false, .bool false]) (t := 25) ?hr ?_; (case hd => rfl); (case hg => rfl); (case hr => first | (go_simp; done) | (go_simp; rfl)); intro gb645 hg w22 hbox hb; have BK645 := Aside0.mk (hbox); have GW645 := Aside0.mk ((by rw [hg]; exact (below_size (by repeat first | (with_reducible exact HB.out) | refine bl1 ?_ | (with_reducible refine bset ?_ ‹_›) | exact HB.out)) : w.heap.size ≤ gb645)); have GE645 := Aside0.mk ((by rw [hg]; exact (below_size (by repeat first | (with_reducible exact HB.out) | refine bl1 ?_ | (with_reducible refine bset ?_ ‹_›) | exact HB.out)) : w.heap.size ≤ gb645)); have NB633_645 := nlk hg BK633; have NB645_633 := ngk hg BK633; replace BK633 := kb BK633 hb; replace HB := Aside0.mk (below_step (by repeat first | (with_reducible exact HB.out) | refine bl1 ?_ | (with_reducible refine bset ?_ ‹_›) | exact HB.out) hb); clear hb hbox hg; have hnb23 := NB645_633.out; have hnc23 := NB633_645.out; obtain ⟨hcz24_0, hcz24_1, hcz24_2, hcz24_3, hcz24_4, hcz24_5, hcz24_6⟩ := bc7 BK645.out; obtain ⟨hfz24_0, hfz24_1, hfz24_2, hfz24_3, hfz24_4, hfz24_5, hfz24_6⟩ := bf7 BK645.out; obtain ⟨hcz25_0, hcz25_1, hcz25_2, hcz25_3, hcz25_4, hcz25_5, hcz25_6⟩ := bc7 BK633.out; obtain ⟨hfz25_0, hfz25_1, hfz25_2, hfz25_3, hfz25_4, hfz25_5, hfz25_6⟩ := bf7 BK633.out) | ((with_reducible refine gate_dst (N := 14) rfl ?_); refine Kd.R_lit k25 _ 25 ?hg (N := 14) ?hd (xs := ([(⟨(⟨t626, t627⟩ : S23), (⟨t628, t629⟩ : S23), t630, t631, t632⟩ : S25), (⟨(⟨t638, t639⟩ : S23), (⟨t640, t641⟩ : S23), t642, t643, t644⟩ : S25)] : List (S25))) (inner := [.int .i64 t626, .int .i64 t627, .int .i64 t628, .int .i64 t629, .int .i64 t630, .bool t631, .bool t632, .int .i64 t638, .int .i64 t639, .int .i64 t640, .int .i64 t641, .int .i64 t642, .bool t643, .bool t644]) (ok := fun _ => True) (okp := fun _ => True) ?hr ?hp (fun _ hk => hk) trivial (Below.refl _ _) (Nat.le_refl _) (by simp) ?_; (case hd => rfl); (case hg => rfl); (case hr => first | (go_simp; done) | (go_simp; rfl)); (case hp => exact (Reps.c7 (show Kd.M k25 _ _ _ (⟨(⟨t626, t627⟩ : S23), (⟨t628, t629⟩ : S23), t630, t631, t632⟩ : S25) [.int .i64 t626, .int .i64 t627, .int .i64 t628, .int .i64 t629, .int .i64 t630, .bool t631, .bool t632] from (k25_mkM _ _ _ (⟨(⟨t626, t627⟩ : S23), (⟨t628, t629⟩ : S23), t630, t631, t632⟩ : S25) )) (Reps.c7 (show Kd.M k25 _ _ _ (⟨(⟨t638, t639⟩ : S23), (⟨t640, t641⟩ : S23), t642, t643, t644⟩ : S25) [.int .i64 t638, .int .i64 t639, .int .i64 t640, .int .i64 t641, .int .i64 t642, .bool t643, .bool t644] from (k25_mkM _ _ _ (⟨(⟨t638, t639⟩ : S23), (⟨t640, t641⟩ : S23), t642, t643, t644⟩ : S25) )) (Reps.none _ _)))); intro v647 w26 ho27 hb hg_ hnew_; clear hg_ hnew_; (first | rw [← Ny646.out] at ho27 | (simp only [Int.reduceToNat] at ho27; rw [← Ny646.out] at ho27)); have HO648 := Aside0.mk (Kd.R_lower (Kd.R_newB (Kd.R_newB ho27 (g := gb633) (o := .cells #[.int .i64 t626, .int .i64 t627, .int .i64 t628, .int .i64 t629, .int .i64 t630, .bool t631, .bool t632] 25 (0, 0)) (by refine bk ?_; refine blk_far ?_ NB633_645.out _; refine bk ?_; refine blk_far ?_ NB633_645.out _; refine bk ?_; refine blk_far ?_ NB633_645.out _; refine bk ?_; refine blk_far ?_ NB633_645.out _; refine bk ?_; refine blk_far ?_ NB633_645.out _; refine bk ?_; refine blk_far ?_ NB633_645.out _; refine bk ?_; refine blk_far ?_ NB633_645.out _; refine bk ?_; exact BK633.out)) (g := gb645) (o := .cells #[.int .i64 t638, .int .i64 t639, .int .i64 t640, .int .i64 t641, .int .i64 t642, .bool t643, .bool t644] 25 (0, 0)) (by exact rq BK645.out (by rfl))) (below_size (by repeat first | (with_reducible exact HB.out) | refine bl1 ?_ | (with_reducible refine bset ?_ ‹_›) | exact HB.out))); replace BK633 := Aside0.mk (blk_below (g := gb633) (o := .cells #[.int .i64 t626, .int .i64 t627, .int .i64 t628, .int .i64 t629, .int .i64 t630, .bool t631, .bool t632] 25 (0, 0)) (by refine bk ?_; refine blk_far ?_ NB633_645.out _; refine bk ?_; refine blk_far ?_ NB633_645.out _; refine bk ?_; refine blk_far ?_ NB633_645.out _; refine bk ?_; refine blk_far ?_ NB633_645.out _; refine bk ?_; refine blk_far ?_ NB633_645.out _; refine bk ?_; refine blk_far ?_ NB633_645.out _; refine bk ?_; refine blk_far ?_ NB633_645.out _; refine bk ?_; exact BK633.out) hb); replace BK645 := Aside0.mk (blk_below (g := gb645) (o := .cells #[.int .i64 t638, .int .i64 t639, .int .i64 t640, .int .i64 t641, .int .i64 t642, .bool t643, .bool t644] 25 (0, 0)) (by exact rq BK645.out (by rfl)) hb); replace HB := Aside0.mk (below_step (by repeat first | (with_reducible exact HB.out) | refine bl1 ?_ | (with_reducible refine bset ?_ ‹_›) | exact HB.out) hb); clear hb ho27; obtain ⟨Ao28, co28, eo28⟩ := Kd.R_slice HO648.out; subst eo28) | ((with_reducible refine gate_callee (f := 22) rfl ?_); refine goesL_ (some 15) rfl rfl Tryd.func22 (by kernel_rfl) rfl #[.string (⟨#[97, 100, 100]⟩ : ByteArray), .slice Ao28 y646.length co28] rfl (by (try simp only [mp]); first | done | rfl | (simp only [ld]; rfl)) ?_; (with_reducible refine (span_Op.calls k (⟨#[97, 100, 100]⟩ : ByteArray) _ _ y646 t649 t650 t651 t652 t653 t654 t655 t656 _ ?side1 ?side2 A7.out).mono ?_); (case side1 => repeat (first | exact (Kd.R_reads' HO648.out).2.2 | (with_reducible refine Kd.C_alloc ?_ _) | (with_reducible refine Kd.C_drewN ?_ _) | (with_reducible refine Kd.C_drew ?_))); (case side2 => exact (Kd.R_reads' HO648.out).2.1); rintro e w29 ⟨rfl, hb⟩; refine ⟨_, rfl, ?_⟩; replace HO648 := Aside0.mk (Kd.R_below (by (with_reducible repeat (first | apply Kd.R_alloc | apply Kd.R_drewN | apply Kd.R_drew)); exact HO648.out) hb); replace BK633 := kb BK633 hb; replace BK645 := kb BK645 hb; replace HB := Aside0.mk (below_step (by repeat first | (with_reducible exact HB.out) | refine bl1 ?_ | (with_reducible refine bset ?_ ‹_›) | exact HB.out) hb); (try clear hb); (try clear hb2); (try clear hk); (try clear hi)) | ((with_reducible refine gate_dst (N := 3) rfl ?_); refine box_event ?hg (N := 3) ?hd (cs := #[.int .i64 0, .int .i64 0, .int .i64 0, .int .i64 0, .int .i64 0, .bool false, .bool false]) (t := 25) ?hr ?_; (case hd => rfl); (case hg => rfl); (case hr => first | (go_simp; done) | (go_simp; rfl)); intro gb657 hg w30 hbox hb; have BK657 := Aside0.mk (hbox); have GW657 := Aside0.mk ((by rw [hg]; exact (below_size (by repeat first | (with_reducible exact HB.out) | refine bl1 ?_ | (with_reducible refine bset ?_ ‹_›) | exact HB.out)) : w.heap.size ≤ gb657)); have GE657 := Aside0.mk ((by rw [hg]; exact (below_size (by repeat first | (with_reducible exact HB.out) | refine bl1 ?_ | (with_reducible refine bset ?_ ‹_›) | exact HB.out)) : w.heap.size ≤ gb657)); have NB633_657 := nlk hg BK633; have NB657_633 := ngk hg BK633; have NB645_657 := nlk hg BK645; have NB657_645 := ngk hg BK645; replace HO648 := Aside0.mk (Kd.R_below (Kd.R_elderB (by (with_reducible repeat (first | apply Kd.R_alloc | apply Kd.R_drewN | apply Kd.R_drew)); exact HO648.out) gb657 (Nat.le_of_eq hg.symm)) hb); replace BK633 := kb BK633 hb; replace BK645 := kb BK645 hb; replace HB := Aside0.mk (below_step (by repeat first | (with_reducible exact HB.out) | refine bl1 ?_ | (with_reducible refine bset ?_ ‹_›) | exact HB.out) hb); clear hb hbox hg; have hnb31 := NB657_633.out; have hnc31 := NB633_657.out; have hnb32 := NB657_645.out; have hnc32 := NB645_657.out; obtain ⟨hcz33_0, hcz33_1, hcz33_2, hcz33_3, hcz33_4, hcz33_5, hcz33_6⟩ := bc7 BK657.out; obtain ⟨hfz33_0, hfz33_1, hfz33_2, hfz33_3, hfz33_4, hfz33_5, hfz33_6⟩ := bf7 BK657.out) | (go_at_call 23; (with_reducible refine (span_Text.calls k t649 t650 t651 t652 t653 t654 t655 t658 _ A9.out).mono ?_); rintro e w34 ⟨rfl, hb⟩; replace HO648 := Aside0.mk (Kd.R_below (by (with_reducible repeat (first | apply Kd.R_alloc | apply Kd.R_drewN | apply Kd.R_drew)); exact (Kd.R_mono (Kd.R_far (p := ⟨gb657, 6, none⟩) (Kd.R_far (p := ⟨gb657, 5, none⟩) (Kd.R_far (p := ⟨gb657, 4, none⟩) (Kd.R_far (p := ⟨gb657, 3, none⟩) (Kd.R_far (p := ⟨gb657, 2, none⟩) (Kd.R_far (p := ⟨gb657, 1, none⟩) (Kd.R_far (p := ⟨gb657, 0, none⟩) (Kd.R_mono HO648.out (fun k_ hk => (⟨hk, hk.2⟩ : _ ∧ k_ ≠ gb657))) (fun _ hk => hk.2) (.int .i64 t649)) (fun _ hk => hk.2) (.int .i64 t650)) (fun _ hk => hk.2) (.int .i64 t651)) (fun _ hk => hk.2) (.int .i64 t652)) (fun _ hk => hk.2) (.int .i64 t653)) (fun _ hk => hk.2) (.bool t654)) (fun _ hk => hk.2) (.bool t655)) (fun _ h_ => h_.1))) hb); replace BK633 := Aside0.mk (blk_below (g := gb633) (o := .cells #[.int .i64 t626, .int .i64 t627, .int .i64 t628, .int .i64 t629, .int .i64 t630, .bool t631, .bool t632] 25 (0, 0)) (by refine bk ?_; refine blk_far ?_ NB633_657.out _; refine bk ?_; refine blk_far ?_ NB633_657.out _; refine bk ?_; refine blk_far ?_ NB633_657.out _; refine bk ?_; refine blk_far ?_ NB633_657.out _; refine bk ?_; refine blk_far ?_ NB633_657.out _; refine bk ?_; refine blk_far ?_ NB633_657.out _; refine bk ?_; refine blk_far ?_ NB633_657.out _; refine bk ?_; exact BK633.out) hb); replace BK645 := Aside0.mk (blk_below (g := gb645) (o := .cells #[.int .i64 t638, .int .i64 t639, .int .i64 t640, .int .i64 t641, .int .i64 t642, .bool t643, .bool t644] 25 (0, 0)) (by refine bk ?_; refine blk_far ?_ NB645_657.out _; refine bk ?_; refine blk_far ?_ NB645_657.out _; refine bk ?_; refine blk_far ?_ NB645_657.out _; refine bk ?_; refine blk_far ?_ NB645_657.out _; refine bk ?_; refine blk_far ?_ NB645_657.out _; refine bk ?_; refine blk_far ?_ NB645_657.out _; refine bk ?_; refine blk_far ?_ NB645_657.out _; refine bk ?_; exact BK645.out) hb); replace BK657 := Aside0.mk (blk_below (g := gb657) (o := .cells #[.int .i64 t649, .int .i64 t650, .int .i64 t651, .int .i64 t652, .int .i64 t653, .bool t654, .bool t655] 25 (0, 0)) (by exact rq BK657.out (by rfl)) hb); replace HB := Aside0.mk (below_step (by repeat first | (with_reducible exact HB.out) | refine bl1 ?_ | (with_reducible refine bset ?_ ‹_›) | exact HB.out) hb); (try clear hb); (try clear hb2); (try clear hk); (try clear hi); obtain ⟨hcz35_0, hcz35_1, hcz35_2, hcz35_3, hcz35_4, hcz35_5, hcz35_6⟩ := bc7 BK657.out; obtain ⟨hfz35_0, hfz35_1, hfz35_2, hfz35_3, hfz35_4, hfz35_5, hfz35_6⟩ := bf7 BK657.out) | (go_at_call 11; (with_reducible refine (span_Has.calls k t649 t650 t651 t652 t653 t654 t655 5 6 true _ A11.out).mono ?_); rintro e w36 ⟨rfl, hb⟩; replace HO648 := Aside0.mk (Kd.R_below (by (with_reducible repeat (first | apply Kd.R_alloc | apply Kd.R_drewN | apply Kd.R_drew)); exact HO648.out) hb); replace BK633 := kb BK633 hb; replace BK645 := kb BK645 hb; replace BK657 := kb BK657 hb; replace HB := Aside0.mk (below_step (by repeat first | (with_reducible exact HB.out) | refine bl1 ?_ | (with_reducible refine bset ?_ ‹_›) | exact HB.out) hb); (try clear hb); (try clear hb2); (try clear hk); (try clear hi); obtain ⟨hcz37_0, hcz37_1, hcz37_2, hcz37_3, hcz37_4, hcz37_5, hcz37_6⟩ := bc7 BK657.out; obtain ⟨hfz37_0, hfz37_1, hfz37_2, hfz37_3, hfz37_4, hfz37_5, hfz37_6⟩ := bf7 BK657.out) | (go_at_call 11; (with_reducible refine (span_Has.calls k t649 t650 t651 t652 t653 t654 t655 5 4 t660 _ A13.out).mono ?_); rintro e w38 ⟨rfl, hb⟩; replace HO648 := Aside0.mk (Kd.R_below (by (with_reducible repeat (first | apply Kd.R_alloc | apply Kd.R_drewN | apply Kd.R_drew)); exact HO648.out) hb); replace BK633 := kb BK633 hb; replace BK645 := kb BK645 hb; replace BK657 := kb BK657 hb; replace HB := Aside0.mk (below_step (by repeat first | (with_reducible exact HB.out) | refine bl1 ?_ | (with_reducible refine bset ?_ ‹_›) | exact HB.out) hb); (try clear hb); (try clear hb2); (try clear hk); (try clear hi))); go_ret; exact ⟨by first | rfl | (simp [errW_none, errW_some] <;> rfl) | (simp [*, errW_none, errW_some] <;> rfl), by repeat first | (with_reducible exact HB.out) | (with_reducible refine bset ?_ ‹_›) | refine bl1 ?_ | exact HB.out⟩
   · replace c12 := Bool.eq_false_iff.mpr c12; subst c12; rw [if_neg (show ¬ (false = true) by decide)] at H; cases H
  · rw [if_neg c10] at H; cases H
 · rw [if_neg c8] at H; cases H
mutual
def serinettelaw03_SpanNests.j0 : Nat → List (S25) → List (S25) → Int → Bool → Int → Int → Option (Bool)
 | 0, _, _, _, _, _, _ => none
 | k + 1, x4, x5, x7, x38, x776000, x776001 => if x38 = true then (serinettelaw03_SpanNests.l0 k x4 x5 x7 ([] : List (S25)) 0 x776000 x776001) else (serinettelaw03_SpanNests.j3 k x4)
def serinettelaw03_SpanNests.j3 : Nat → List (S25) → Option (Bool)
 | 0, _ => none
 | k + 1, x4 => (serinetteref03_Empty.f false).bind fun bt821 => (serinettelaw03_SpanNests.l1 k 0 x4 (x4.length : Int) 0 bt821.1 bt821.2.1 bt821.2.2.1 bt821.2.2.2.1 bt821.2.2.2.2.1 bt821.2.2.2.2.2.1 bt821.2.2.2.2.2.2)
def serinettelaw03_SpanNests.l1 : Nat → Int → List (S25) → Int → Int → Int → Int → Int → Int → Int → Bool → Bool → Option (Bool)
 | 0, _, _, _, _, _, _, _, _, _, _, _ => none
 | k + 1, x10, x102, x103, x104, x829000, x829001, x829002, x829003, x829004, x829005, x829006 => if x104 < x103 then (if 0 ≤ x104 then (if x104 < (x102.length : Int) then (if x829006 = true then ((span_Widen.f k x829000 x829001 x829002 x829003 x829004 x829005 x829006 ((rd_T25 x102 x104).f0.f0) ((rd_T25 x102 x104).f0.f1) ((rd_T25 x102 x104).f1.f0) ((rd_T25 x102 x104).f1.f1) ((rd_T25 x102 x104).f2) ((rd_T25 x102 x104).f3) ((rd_T25 x102 x104).f4)).bind fun bt832 => (serinettelaw03_SpanNests.l1 k x10 x102 x103 (wrap64 (x104 + 1)) bt832.1 bt832.2.1 bt832.2.2.1 bt832.2.2.2.1 bt832.2.2.2.2.1 bt832.2.2.2.2.2.1 bt832.2.2.2.2.2.2)) else ((span_Widen.f k x829000 x829001 x829002 x829003 x829004 x829005 x829006 ((rd_T25 x102 x104).f0.f0) ((rd_T25 x102 x104).f0.f1) ((rd_T25 x102 x104).f1.f0) ((rd_T25 x102 x104).f1.f1) ((rd_T25 x102 x104).f2) ((rd_T25 x102 x104).f3) ((rd_T25 x102 x104).f4)).bind fun bt839 => (if ((!(bt839.1 == x829000) || (!(bt839.2.1 == x829001))) || ((!(bt839.2.2.1 == x829002) || (!(bt839.2.2.2.1 == x829003))) || (!(bt839.2.2.2.2.1 == x829004) || (!(bt839.2.2.2.2.2.1 == x829005) || (!(bt839.2.2.2.2.2.2 == x829006)))))) = true then (serinettelaw03_SpanNests.l1 k (wrap64 (x10 + 1)) x102 x103 (wrap64 (x104 + 1)) bt839.1 bt839.2.1 bt839.2.2.1 bt839.2.2.2.1 bt839.2.2.2.2.1 bt839.2.2.2.2.2.1 bt839.2.2.2.2.2.2) else (serinettelaw03_SpanNests.l1 k x10 x102 x103 (wrap64 (x104 + 1)) bt839.1 bt839.2.1 bt839.2.2.1 bt839.2.2.2.1 bt839.2.2.2.2.1 bt839.2.2.2.2.2.1 bt839.2.2.2.2.2.2)))) else (none)) else (none)) else (if x10 ≤ 4 then ((serinettelaw03_awake.f k).bind fun t829 => (some t829)) else (some false))
def serinettelaw03_SpanNests.l0 : Nat → List (S25) → List (S25) → Int → List (S25) → Int → Int → Int → Option (Bool)
 | 0, _, _, _, _, _, _, _ => none
 | k + 1, x4, x5, x7, x8, x9, x776000, x776001 => if x9 < x7 then (if 0 ≤ x9 then (if x9 < (x4.length : Int) then (if x9 < (x5.length : Int) then ((span_Join.f k ((rd_T25 x4 x9).f0.f0) ((rd_T25 x4 x9).f0.f1) ((rd_T25 x4 x9).f1.f0) ((rd_T25 x4 x9).f1.f1) ((rd_T25 x4 x9).f2) ((rd_T25 x4 x9).f3) ((rd_T25 x4 x9).f4) ((rd_T25 x5 x9).f0.f0) ((rd_T25 x5 x9).f0.f1) ((rd_T25 x5 x9).f1.f0) ((rd_T25 x5 x9).f1.f1) ((rd_T25 x5 x9).f2) ((rd_T25 x5 x9).f3) ((rd_T25 x5 x9).f4)).bind fun bt779 => (if x8.length < 2932031007402 then ((some (x8 ++ [(⟨(⟨bt779.1, bt779.2.1⟩ : S23), (⟨bt779.2.2.1, bt779.2.2.2.1⟩ : S23), bt779.2.2.2.2.1, bt779.2.2.2.2.2.1, bt779.2.2.2.2.2.2⟩ : S25)] : List (S25))).bind fun y786 => ((serinetteref03_Has.f k ((rd_T25 x4 x9).f0.f0) ((rd_T25 x4 x9).f0.f1) ((rd_T25 x4 x9).f1.f0) ((rd_T25 x4 x9).f1.f1) ((rd_T25 x4 x9).f2) ((rd_T25 x4 x9).f3) ((rd_T25 x4 x9).f4) x776000 x776001).bind fun t790 => (if t790 = true then (if x9 < (y786.length : Int) then ((span_Has.f k ((rd_T25 y786 x9).f0.f0) ((rd_T25 y786 x9).f0.f1) ((rd_T25 y786 x9).f1.f0) ((rd_T25 y786 x9).f1.f1) ((rd_T25 y786 x9).f2) ((rd_T25 y786 x9).f3) ((rd_T25 y786 x9).f4) x776000 x776001).bind fun t792 => (if t792 = true then ((serinetteref03_Has.f k ((rd_T25 x4 x9).f0.f0) ((rd_T25 x4 x9).f0.f1) ((rd_T25 x4 x9).f1.f0) ((rd_T25 x4 x9).f1.f1) ((rd_T25 x4 x9).f2) ((rd_T25 x4 x9).f3) ((rd_T25 x4 x9).f4) x776000 x776001).bind fun t794 => (if t794 = true then ((serinetteref03_Has.f k ((rd_T25 x5 x9).f0.f0) ((rd_T25 x5 x9).f0.f1) ((rd_T25 x5 x9).f1.f0) ((rd_T25 x5 x9).f1.f1) ((rd_T25 x5 x9).f2) ((rd_T25 x5 x9).f3) ((rd_T25 x5 x9).f4) x776000 x776001).bind fun t796 => (if t796 = true then ((span_Meet.f k ((rd_T25 x4 x9).f0.f0) ((rd_T25 x4 x9).f0.f1) ((rd_T25 x4 x9).f1.f0) ((rd_T25 x4 x9).f1.f1) ((rd_T25 x4 x9).f2) ((rd_T25 x4 x9).f3) ((rd_T25 x4 x9).f4) ((rd_T25 x5 x9).f0.f0) ((rd_T25 x5 x9).f0.f1) ((rd_T25 x5 x9).f1.f0) ((rd_T25 x5 x9).f1.f1) ((rd_T25 x5 x9).f2) ((rd_T25 x5 x9).f3) ((rd_T25 x5 x9).f4)).bind fun bt799 => ((span_Has.f k bt799.1 bt799.2.1 bt799.2.2.1 bt799.2.2.2.1 bt799.2.2.2.2.1 bt799.2.2.2.2.2.1 bt799.2.2.2.2.2.2 x776000 x776001).bind fun t806 => (serinettelaw03_SpanNests.j2 k x4 x5 x7 y786 x9 (!t806) x776000 x776001))) else (serinettelaw03_SpanNests.j2 k x4 x5 x7 y786 x9 false x776000 x776001))) else (serinettelaw03_SpanNests.j2 k x4 x5 x7 y786 x9 false x776000 x776001))) else (serinettelaw03_SpanNests.j2 k x4 x5 x7 y786 x9 true x776000 x776001))) else (none)) else ((serinetteref03_Has.f k ((rd_T25 x4 x9).f0.f0) ((rd_T25 x4 x9).f0.f1) ((rd_T25 x4 x9).f1.f0) ((rd_T25 x4 x9).f1.f1) ((rd_T25 x4 x9).f2) ((rd_T25 x4 x9).f3) ((rd_T25 x4 x9).f4) x776000 x776001).bind fun t808 => (if t808 = true then ((serinetteref03_Has.f k ((rd_T25 x5 x9).f0.f0) ((rd_T25 x5 x9).f0.f1) ((rd_T25 x5 x9).f1.f0) ((rd_T25 x5 x9).f1.f1) ((rd_T25 x5 x9).f2) ((rd_T25 x5 x9).f3) ((rd_T25 x5 x9).f4) x776000 x776001).bind fun t810 => (if t810 = true then ((span_Meet.f k ((rd_T25 x4 x9).f0.f0) ((rd_T25 x4 x9).f0.f1) ((rd_T25 x4 x9).f1.f0) ((rd_T25 x4 x9).f1.f1) ((rd_T25 x4 x9).f2) ((rd_T25 x4 x9).f3) ((rd_T25 x4 x9).f4) ((rd_T25 x5 x9).f0.f0) ((rd_T25 x5 x9).f0.f1) ((rd_T25 x5 x9).f1.f0) ((rd_T25 x5 x9).f1.f1) ((rd_T25 x5 x9).f2) ((rd_T25 x5 x9).f3) ((rd_T25 x5 x9).f4)).bind fun bt813 => ((span_Has.f k bt813.1 bt813.2.1 bt813.2.2.1 bt813.2.2.2.1 bt813.2.2.2.2.1 bt813.2.2.2.2.2.1 bt813.2.2.2.2.2.2 x776000 x776001).bind fun t820 => (serinettelaw03_SpanNests.j2 k x4 x5 x7 y786 x9 (!t820) x776000 x776001))) else (serinettelaw03_SpanNests.j2 k x4 x5 x7 y786 x9 false x776000 x776001))) else (serinettelaw03_SpanNests.j2 k x4 x5 x7 y786 x9 false x776000 x776001)))))) else (none))) else (none)) else (none)) else (none)) else (serinettelaw03_SpanNests.j3 k x4)
def serinettelaw03_SpanNests.j2 : Nat → List (S25) → List (S25) → Int → List (S25) → Int → Bool → Int → Int → Option (Bool)
 | 0, _, _, _, _, _, _, _, _ => none
 | k + 1, x4, x5, x7, x8, x9, x100, x776000, x776001 => if x100 = true then (some false) else (serinettelaw03_SpanNests.l0 k x4 x5 x7 x8 (wrap64 (x9 + 1)) x776000 x776001)
end
def serinettelaw03_SpanNests.f (k : Nat) (a0_0 : ByteArray) (l0_1 : List (S25)) (l0_2 : List (S25)) (a0_3 : Int) (a0_4 : Int) : Option (Bool) := (serinetteref03_Takes.f k a0_0).bind fun t776 => (if t776 > 0 then (if (l0_1.length : Int) ≥ t776 then (serinettelaw03_SpanNests.j0 k l0_1 l0_2 t776 (decide ((l0_2.length : Int) ≥ t776)) a0_3 a0_4) else (serinettelaw03_SpanNests.j0 k l0_1 l0_2 t776 false a0_3 a0_4)) else (serinettelaw03_SpanNests.j0 k l0_1 l0_2 t776 false a0_3 a0_4))
theorem serinettelaw03_SpanNests.mono_l : ∀ k, (∀ y0 y1 y2 y3 y4 y5, LeO (serinettelaw03_SpanNests.j0 k y0 y1 y2 y3 y4 y5) (serinettelaw03_SpanNests.j0 (k + 1) y0 y1 y2 y3 y4 y5)) ∧ (∀ y0, LeO (serinettelaw03_SpanNests.j3 k y0) (serinettelaw03_SpanNests.j3 (k + 1) y0)) ∧ (∀ y0 y1 y2 y3 y4 y5 y6 y7 y8 y9 y10, LeO (serinettelaw03_SpanNests.l1 k y0 y1 y2 y3 y4 y5 y6 y7 y8 y9 y10) (serinettelaw03_SpanNests.l1 (k + 1) y0 y1 y2 y3 y4 y5 y6 y7 y8 y9 y10)) ∧ (∀ y0 y1 y2 y3 y4 y5 y6, LeO (serinettelaw03_SpanNests.l0 k y0 y1 y2 y3 y4 y5 y6) (serinettelaw03_SpanNests.l0 (k + 1) y0 y1 y2 y3 y4 y5 y6)) ∧ (∀ y0 y1 y2 y3 y4 y5 y6 y7, LeO (serinettelaw03_SpanNests.j2 k y0 y1 y2 y3 y4 y5 y6 y7) (serinettelaw03_SpanNests.j2 (k + 1) y0 y1 y2 y3 y4 y5 y6 y7))
 | 0 => ⟨fun _ _ _ _ _ _ r h => by simp [serinettelaw03_SpanNests.j0] at h, fun _ r h => by simp [serinettelaw03_SpanNests.j3] at h, fun _ _ _ _ _ _ _ _ _ _ _ r h => by simp [serinettelaw03_SpanNests.l1] at h, fun _ _ _ _ _ _ _ r h => by simp [serinettelaw03_SpanNests.l0] at h, fun _ _ _ _ _ _ _ _ r h => by simp [serinettelaw03_SpanNests.j2] at h⟩
 | k + 1 => by
  obtain ⟨ih0, ih1, ih2, ih3, ih4⟩ := serinettelaw03_SpanNests.mono_l k
  refine ⟨?_, ?_, ?_, ?_, ?_⟩
  ·
   intro y0 y1 y2 y3 y4 y5
   unfold serinettelaw03_SpanNests.j0
   repeat' first
   | (with_reducible exact ih0 _ _ _ _ _ _)
   | (with_reducible exact ih1 _)
   | (with_reducible exact ih2 _ _ _ _ _ _ _ _ _ _ _)
   | (with_reducible exact ih3 _ _ _ _ _ _ _)
   | (with_reducible exact ih4 _ _ _ _ _ _ _ _)
   | (with_reducible exact serinettelaw03_awake.mono _)
   | (with_reducible exact serinetteref03_Has.mono _ _ _ _ _ _ _ _ _ _)
   | (with_reducible exact serinetteref03_Takes.mono _ _)
   | (with_reducible exact span_Has.mono _ _ _ _ _ _ _ _ _ _)
   | (with_reducible exact span_Join.mono _ _ _ _ _ _ _ _ _ _ _ _ _ _ _)
   | (with_reducible exact span_Meet.mono _ _ _ _ _ _ _ _ _ _ _ _ _ _ _)
   | (with_reducible exact span_Widen.mono _ _ _ _ _ _ _ _ _ _ _ _ _ _ _)
   | (with_reducible exact LeO.refl _)
   | (with_reducible exact LeO.none _)
   | (with_reducible refine LeO.ite ?_ ?_)
   | (with_reducible refine LeO.bind ?_ (fun _ => ?_))
   | exact ih0 _ _ _ _ _ _
   | exact ih1 _
   | exact ih2 _ _ _ _ _ _ _ _ _ _ _
   | exact ih3 _ _ _ _ _ _ _
   | exact ih4 _ _ _ _ _ _ _ _
   | exact serinettelaw03_awake.mono _
   | exact serinetteref03_Has.mono _ _ _ _ _ _ _ _ _ _
   | exact serinetteref03_Takes.mono _ _
   | exact span_Has.mono _ _ _ _ _ _ _ _ _ _
   | exact span_Join.mono _ _ _ _ _ _ _ _ _ _ _ _ _ _ _
   | exact span_Meet.mono _ _ _ _ _ _ _ _ _ _ _ _ _ _ _
   | exact span_Widen.mono _ _ _ _ _ _ _ _ _ _ _ _ _ _ _
   | exact LeO.none _
   | refine LeO.ite ?_ ?_
   | refine LeO.bind ?_ (fun _ => ?_)
  ·
   intro y0
   unfold serinettelaw03_SpanNests.j3
   repeat' first
   | (with_reducible exact ih0 _ _ _ _ _ _)
   | (with_reducible exact ih1 _)
   | (with_reducible exact ih2 _ _ _ _ _ _ _ _ _ _ _)
   | (with_reducible exact ih3 _ _ _ _ _ _ _)
   | (with_reducible exact ih4 _ _ _ _ _ _ _ _)
   | (with_reducible exact serinettelaw03_awake.mono _)
   | (with_reducible exact serinetteref03_Has.mono _ _ _ _ _ _ _ _ _ _)
   | (with_reducible exact serinetteref03_Takes.mono _ _)
   | (with_reducible exact span_Has.mono _ _ _ _ _ _ _ _ _ _)
   | (with_reducible exact span_Join.mono _ _ _ _ _ _ _ _ _ _ _ _ _ _ _)
   | (with_reducible exact span_Meet.mono _ _ _ _ _ _ _ _ _ _ _ _ _ _ _)
   | (with_reducible exact span_Widen.mono _ _ _ _ _ _ _ _ _ _ _ _ _ _ _)
   | (with_reducible exact LeO.refl _)
   | (with_reducible exact LeO.none _)
   | (with_reducible refine LeO.ite ?_ ?_)
   | (with_reducible refine LeO.bind ?_ (fun _ => ?_))
   | exact ih0 _ _ _ _ _ _
   | exact ih1 _
   | exact ih2 _ _ _ _ _ _ _ _ _ _ _
   | exact ih3 _ _ _ _ _ _ _
   | exact ih4 _ _ _ _ _ _ _ _
   | exact serinettelaw03_awake.mono _
   | exact serinetteref03_Has.mono _ _ _ _ _ _ _ _ _ _
   | exact serinetteref03_Takes.mono _ _
   | exact span_Has.mono _ _ _ _ _ _ _ _ _ _
   | exact span_Join.mono _ _ _ _ _ _ _ _ _ _ _ _ _ _ _
   | exact span_Meet.mono _ _ _ _ _ _ _ _ _ _ _ _ _ _ _
   | exact span_Widen.mono _ _ _ _ _ _ _ _ _ _ _ _ _ _ _
   | exact LeO.none _
   | refine LeO.ite ?_ ?_
   | refine LeO.bind ?_ (fun _ => ?_)
  ·
   intro y0 y1 y2 y3 y4 y5 y6 y7 y8 y9 y10
   unfold serinettelaw03_SpanNests.l1
   repeat' first
   | (with_reducible exact ih0 _ _ _ _ _ _)
   | (with_reducible exact ih1 _)
   | (with_reducible exact ih2 _ _ _ _ _ _ _ _ _ _ _)
   | (with_reducible exact ih3 _ _ _ _ _ _ _)
   | (with_reducible exact ih4 _ _ _ _ _ _ _ _)
   | (with_reducible exact serinettelaw03_awake.mono _)
   | (with_reducible exact serinetteref03_Has.mono _ _ _ _ _ _ _ _ _ _)
   | (with_reducible exact serinetteref03_Takes.mono _ _)
   | (with_reducible exact span_Has.mono _ _ _ _ _ _ _ _ _ _)
   | (with_reducible exact span_Join.mono _ _ _ _ _ _ _ _ _ _ _ _ _ _ _)
   | (with_reducible exact span_Meet.mono _ _ _ _ _ _ _ _ _ _ _ _ _ _ _)
   | (with_reducible exact span_Widen.mono _ _ _ _ _ _ _ _ _ _ _ _ _ _ _)
   | (with_reducible exact LeO.refl _)
   | (with_reducible exact LeO.none _)
   | (with_reducible refine LeO.ite ?_ ?_)
   | (with_reducible refine LeO.bind ?_ (fun _ => ?_))
   | exact ih0 _ _ _ _ _ _
   | exact ih1 _
   | exact ih2 _ _ _ _ _ _ _ _ _ _ _
   | exact ih3 _ _ _ _ _ _ _
   | exact ih4 _ _ _ _ _ _ _ _
   | exact serinettelaw03_awake.mono _
   | exact serinetteref03_Has.mono _ _ _ _ _ _ _ _ _ _
   | exact serinetteref03_Takes.mono _ _
   | exact span_Has.mono _ _ _ _ _ _ _ _ _ _
   | exact span_Join.mono _ _ _ _ _ _ _ _ _ _ _ _ _ _ _
   | exact span_Meet.mono _ _ _ _ _ _ _ _ _ _ _ _ _ _ _
   | exact span_Widen.mono _ _ _ _ _ _ _ _ _ _ _ _ _ _ _
   | exact LeO.none _
   | refine LeO.ite ?_ ?_
   | refine LeO.bind ?_ (fun _ => ?_)
  ·
   intro y0 y1 y2 y3 y4 y5 y6
   unfold serinettelaw03_SpanNests.l0
   repeat' first
   | (with_reducible exact ih0 _ _ _ _ _ _)
   | (with_reducible exact ih1 _)
   | (with_reducible exact ih2 _ _ _ _ _ _ _ _ _ _ _)
   | (with_reducible exact ih3 _ _ _ _ _ _ _)
   | (with_reducible exact ih4 _ _ _ _ _ _ _ _)
   | (with_reducible exact serinettelaw03_awake.mono _)
   | (with_reducible exact serinetteref03_Has.mono _ _ _ _ _ _ _ _ _ _)
   | (with_reducible exact serinetteref03_Takes.mono _ _)
   | (with_reducible exact span_Has.mono _ _ _ _ _ _ _ _ _ _)
   | (with_reducible exact span_Join.mono _ _ _ _ _ _ _ _ _ _ _ _ _ _ _)
   | (with_reducible exact span_Meet.mono _ _ _ _ _ _ _ _ _ _ _ _ _ _ _)
   | (with_reducible exact span_Widen.mono _ _ _ _ _ _ _ _ _ _ _ _ _ _ _)
   | (with_reducible exact LeO.refl _)
   | (with_reducible exact LeO.none _)
   | (with_reducible refine LeO.ite ?_ ?_)
   | (with_reducible refine LeO.bind ?_ (fun _ => ?_))
   | exact ih0 _ _ _ _ _ _
   | exact ih1 _
   | exact ih2 _ _ _ _ _ _ _ _ _ _ _
   | exact ih3 _ _ _ _ _ _ _
   | exact ih4 _ _ _ _ _ _ _ _
   | exact serinettelaw03_awake.mono _
   | exact serinetteref03_Has.mono _ _ _ _ _ _ _ _ _ _
   | exact serinetteref03_Takes.mono _ _
   | exact span_Has.mono _ _ _ _ _ _ _ _ _ _
   | exact span_Join.mono _ _ _ _ _ _ _ _ _ _ _ _ _ _ _
   | exact span_Meet.mono _ _ _ _ _ _ _ _ _ _ _ _ _ _ _
   | exact span_Widen.mono _ _ _ _ _ _ _ _ _ _ _ _ _ _ _
   | exact LeO.none _
   | refine LeO.ite ?_ ?_
   | refine LeO.bind ?_ (fun _ => ?_)
  ·
   intro y0 y1 y2 y3 y4 y5 y6 y7
   unfold serinettelaw03_SpanNests.j2
   repeat' first
   | (with_reducible exact ih0 _ _ _ _ _ _)
   | (with_reducible exact ih1 _)
   | (with_reducible exact ih2 _ _ _ _ _ _ _ _ _ _ _)
   | (with_reducible exact ih3 _ _ _ _ _ _ _)
   | (with_reducible exact ih4 _ _ _ _ _ _ _ _)
   | (with_reducible exact serinettelaw03_awake.mono _)
   | (with_reducible exact serinetteref03_Has.mono _ _ _ _ _ _ _ _ _ _)
   | (with_reducible exact serinetteref03_Takes.mono _ _)
   | (with_reducible exact span_Has.mono _ _ _ _ _ _ _ _ _ _)
   | (with_reducible exact span_Join.mono _ _ _ _ _ _ _ _ _ _ _ _ _ _ _)
   | (with_reducible exact span_Meet.mono _ _ _ _ _ _ _ _ _ _ _ _ _ _ _)
   | (with_reducible exact span_Widen.mono _ _ _ _ _ _ _ _ _ _ _ _ _ _ _)
   | (with_reducible exact LeO.refl _)
   | (with_reducible exact LeO.none _)
   | (with_reducible refine LeO.ite ?_ ?_)
   | (with_reducible refine LeO.bind ?_ (fun _ => ?_))
   | exact ih0 _ _ _ _ _ _
   | exact ih1 _
   | exact ih2 _ _ _ _ _ _ _ _ _ _ _
   | exact ih3 _ _ _ _ _ _ _
   | exact ih4 _ _ _ _ _ _ _ _
   | exact serinettelaw03_awake.mono _
   | exact serinetteref03_Has.mono _ _ _ _ _ _ _ _ _ _
   | exact serinetteref03_Takes.mono _ _
   | exact span_Has.mono _ _ _ _ _ _ _ _ _ _
   | exact span_Join.mono _ _ _ _ _ _ _ _ _ _ _ _ _ _ _
   | exact span_Meet.mono _ _ _ _ _ _ _ _ _ _ _ _ _ _ _
   | exact span_Widen.mono _ _ _ _ _ _ _ _ _ _ _ _ _ _ _
   | exact LeO.none _
   | refine LeO.ite ?_ ?_
   | refine LeO.bind ?_ (fun _ => ?_)
theorem serinettelaw03_SpanNests.mono : ∀ a0 a1 a2 a3 a4 k, LeO (serinettelaw03_SpanNests.f k a0 a1 a2 a3 a4) (serinettelaw03_SpanNests.f (k + 1) a0 a1 a2 a3 a4) := by
 intro a0 a1 a2 a3 a4 k
 obtain ⟨ih0, ih1, ih2, ih3, ih4⟩ := serinettelaw03_SpanNests.mono_l k
 unfold serinettelaw03_SpanNests.f
 repeat' first
   | (with_reducible exact ih0 _ _ _ _ _ _)
   | (with_reducible exact ih1 _)
   | (with_reducible exact ih2 _ _ _ _ _ _ _ _ _ _ _)
   | (with_reducible exact ih3 _ _ _ _ _ _ _)
   | (with_reducible exact ih4 _ _ _ _ _ _ _ _)
   | (with_reducible exact serinettelaw03_awake.mono _)
   | (with_reducible exact serinetteref03_Has.mono _ _ _ _ _ _ _ _ _ _)
   | (with_reducible exact serinetteref03_Takes.mono _ _)
   | (with_reducible exact span_Has.mono _ _ _ _ _ _ _ _ _ _)
   | (with_reducible exact span_Join.mono _ _ _ _ _ _ _ _ _ _ _ _ _ _ _)
   | (with_reducible exact span_Meet.mono _ _ _ _ _ _ _ _ _ _ _ _ _ _ _)
   | (with_reducible exact span_Widen.mono _ _ _ _ _ _ _ _ _ _ _ _ _ _ _)
   | (with_reducible exact LeO.refl _)
   | (with_reducible exact LeO.none _)
   | (with_reducible refine LeO.ite ?_ ?_)
   | (with_reducible refine LeO.bind ?_ (fun _ => ?_))
   | exact ih0 _ _ _ _ _ _
   | exact ih1 _
   | exact ih2 _ _ _ _ _ _ _ _ _ _ _
   | exact ih3 _ _ _ _ _ _ _
   | exact ih4 _ _ _ _ _ _ _ _
   | exact serinettelaw03_awake.mono _
   | exact serinetteref03_Has.mono _ _ _ _ _ _ _ _ _ _
   | exact serinetteref03_Takes.mono _ _
   | exact span_Has.mono _ _ _ _ _ _ _ _ _ _
   | exact span_Join.mono _ _ _ _ _ _ _ _ _ _ _ _ _ _ _
   | exact span_Meet.mono _ _ _ _ _ _ _ _ _ _ _ _ _ _ _
   | exact span_Widen.mono _ _ _ _ _ _ _ _ _ _ _ _ _ _ _
   | exact LeO.none _
   | refine LeO.ite ?_ ?_
   | refine LeO.bind ?_ (fun _ => ?_)
def serinettelaw03_SpanNests.T11 : Bool × List (List Nat × List Nat) := (true, [([], []), ([], []), ([], []), ([1, 2], [1, 2]), ([3], [3]), ([], []), ([], []), ([5, 6], [5, 6]), ([7], [7]), ([4, 8], [4, 8]), ([9], [9]), ([0, 10, 9], [0, 10]), ([11, 11, 0, 1, 2, 3, 4, 5, 6, 7, 8, 9, 10, 11], [0, 11])])
def serinettelaw03_SpanNests.B11 : List Nat := [0, 0, 0, 6, 14, 0, 0, 96, 224, 510, 1022, 2047, 4095]
theorem serinettelaw03_SpanNests.tab11 : rtab .any (opsOf Tryd.f4 11) = serinettelaw03_SpanNests.T11 := by kernel_rfl
theorem serinettelaw03_SpanNests.bits11 : waitsOk serinettelaw03_SpanNests.T11.2 serinettelaw03_SpanNests.B11 = true := by kernel_rfl
def serinettelaw03_SpanNests.T12 : Bool × List (List Nat × List Nat) := (true, [([], []), ([], []), ([0, 1], [0, 1]), ([2], [2]), ([], []), ([3, 4], [3, 4]), ([5, 5], [5]), ([6], [6]), ([6], [6]), ([7, 8, 6], [6, 7, 8]), ([9, 6], [6, 9]), ([6], [6]), ([10, 11, 6, 6], [6, 10, 11]), ([12, 6], [6, 12]), ([6, 13], [6, 13]), ([14, 12], [14]), ([15], [15]), ([15], [15]), ([16, 17, 15], [15, 16, 17]), ([18, 15], [15, 18]), ([15], [15]), ([19, 20, 15, 15], [15, 19, 20]), ([21, 21, 15], [15, 21]), ([22], [22]), ([22], [22]), ([23, 24, 22], [22, 23, 24]), ([25, 22], [22, 25]), ([22], [22]), ([26, 27, 22, 22], [22, 26, 27]), ([22, 28, 15], [15, 22, 28]), ([29, 28, 15], [15, 29]), ([30], [30]), ([30], [30]), ([31, 32, 30], [30, 31, 32]), ([33, 30], [30, 33]), ([30], [30]), ([30], [30]), ([35, 36, 30], [30, 35, 36]), ([37, 30], [30, 37]), ([34, 38, 30, 30], [30, 34, 38]), ([30], [30]), ([39, 40, 39, 30], [30, 39, 40]), ([41, 30], [30, 41]), ([30, 42, 15], [15, 30, 42]), ([15, 43], [15, 43])])
def serinettelaw03_SpanNests.B12 : List Nat := [0, 0, 3, 7, 0, 31, 63, 127, 127, 511, 1023, 127, 4095, 8191, 16383, 32767, 65535, 65535, 262143, 524287, 65535, 2097151, 4194303, 8388607, 8388607, 33554431, 67108863, 8388607, 268435455, 536870911, 1073741823, 2147483647, 2147483647, 8589934591, 17179869183, 2147483647, 2147483647, 105226698751, 242665652223, 549755813887, 2147483647, 2199023255551, 4398046511103, 8796093022207, 17592186044415]
theorem serinettelaw03_SpanNests.tab12 : rtab .any (opsOf Tryd.f4 12) = serinettelaw03_SpanNests.T12 := by kernel_rfl
theorem serinettelaw03_SpanNests.bits12 : waitsOk serinettelaw03_SpanNests.T12.2 serinettelaw03_SpanNests.B12 = true := by kernel_rfl
end Go.Proofs.YtlibjgmnookakaaDoor.SSpanNests
