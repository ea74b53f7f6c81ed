/- Parts of the proof of SpanMakes, joined by program out of this session's own texts. -/
import Derived.Test.YtlibjgmnookakaaDoorZB0
set_option linter.unusedVariables false
set_option linter.unusedSimpArgs false
namespace Go.Proofs.YtlibjgmnookakaaDoor.SSpanMakes
open Go.RowKit Go.Proofs.YtlibjgmnookakaaDoor.Wd.PrintWords Go.Proofs.YtlibjgmnookakaaDoor.Wd.PrintLast Go.Proofs.YtlibjgmnookakaaDoor.Wd.PrintMore
attribute [local go_sem] max2_int min2_int max_two min_two max_three min_three max_four min_four
attribute [local go_sem] max2_int min2_int max_two min_two max_three min_three max_four min_four
attribute [local go_sem] max2_int min2_int max_two min_two max_three min_three max_four min_four
def errW : Option Int → Value
 | none => .nilIface
 | some c => .iface 0 (.int .i64 c)
theorem errW_none : errW none = .nilIface := rfl
theorem errW_some (c : Int) : errW (some c) = .iface 0 (.int .i64 c) := rfl
theorem info25 : (Tryd.prog.info? 25).map (fun i => (i.zero, i.size, i.bytes)) = some (some (.agg #[(.int .i64 0), (.int .i64 0), (.int .i64 0), (.int .i64 0), (.int .i64 0), (.bool false), (.bool false)]), 7, 48) := by kernel_rfl
structure S23 where
 f0 : Int
 f1 : Int
def z23 : S23 := ⟨(0 : Int), (0 : Int)⟩
def k23 : Kd S23 := Kd.iso (Kd.pair (Kd.int .i64) (Kd.int .i64)) (fun x : S23 => (x.f0, x.f1))
theorem k23_open {w : World} {x : S23} {cs : List Value} (h : k23.K w x cs) : cs = [.int .i64 x.f0, .int .i64 x.f1] := by
 obtain ⟨_, _, rfl, rfl, rfl⟩ := h
 exact rfl
theorem k23_mkM (w : World) (base : Nat) (ok : Nat → Prop) (x : S23)  : k23.M w base ok x [.int .i64 x.f0, .int .i64 x.f1] := ⟨[.int .i64 x.f0], [.int .i64 x.f1], rfl, rfl, rfl⟩
structure S25 where
 f0 : S23
 f1 : S23
 f2 : Int
 f3 : Bool
 f4 : Bool
def z25 : S25 := ⟨z23, z23, (0 : Int), false, false⟩
def k25 : Kd S25 := Kd.iso (Kd.pair k23 (Kd.pair k23 (Kd.pair (Kd.int .i64) (Kd.pair Kd.bool Kd.bool)))) (fun x : S25 => (x.f0, x.f1, x.f2, x.f3, x.f4))
theorem k25_open {w : World} {x : S25} {cs : List Value} (h : k25.K w x cs) : cs = [.int .i64 x.f0.f0, .int .i64 x.f0.f1, .int .i64 x.f1.f0, .int .i64 x.f1.f1, .int .i64 x.f2, .bool x.f3, .bool x.f4] := by
 obtain ⟨_, _, rfl, s0, ⟨_, _, rfl, s2, ⟨_, _, rfl, rfl, ⟨_, _, rfl, rfl, rfl⟩⟩⟩⟩ := h
 obtain rfl := k23_open s0
 obtain rfl := k23_open s2
 exact rfl
theorem k25_mkM (w : World) (base : Nat) (ok : Nat → Prop) (x : S25)  : k25.M w base ok x [.int .i64 x.f0.f0, .int .i64 x.f0.f1, .int .i64 x.f1.f0, .int .i64 x.f1.f1, .int .i64 x.f2, .bool x.f3, .bool x.f4] := ⟨[.int .i64 x.f0.f0, .int .i64 x.f0.f1], [.int .i64 x.f1.f0, .int .i64 x.f1.f1, .int .i64 x.f2, .bool x.f3, .bool x.f4], rfl, (k23_mkM w base ok x.f0 ), ⟨[.int .i64 x.f1.f0, .int .i64 x.f1.f1], [.int .i64 x.f2, .bool x.f3, .bool x.f4], rfl, (k23_mkM w base ok x.f1 ), ⟨[.int .i64 x.f2], [.bool x.f3, .bool x.f4], rfl, rfl, ⟨[.bool x.f3], [.bool x.f4], rfl, rfl, rfl⟩⟩⟩⟩
def rd_T25 (xs : List S25) (i : Int) : S25 := xs.getD i.toNat z25
theorem at_T25 {w : World} {A : Option Addr} {n : Nat} {xs : List S25} (h : Kd.C k25 w A n xs) (i : Int) (h0 : 0 ≤ i) (h1 : i < n) : ∃ ad , A = some ad ∧ w.cell? (ad.add (i.toNat * 7)) = some (.int .i64 (rd_T25 xs i).f0.f0) ∧ w.cell? ⟨(ad.add (i.toNat * 7)).block, (ad.add (i.toNat * 7)).off + 1, none⟩ = some (.int .i64 (rd_T25 xs i).f0.f1) ∧ w.cell? ⟨(ad.add (i.toNat * 7)).block, (ad.add (i.toNat * 7)).off + 2, none⟩ = some (.int .i64 (rd_T25 xs i).f1.f0) ∧ w.cell? ⟨(ad.add (i.toNat * 7)).block, (ad.add (i.toNat * 7)).off + 3, none⟩ = some (.int .i64 (rd_T25 xs i).f1.f1) ∧ w.cell? ⟨(ad.add (i.toNat * 7)).block, (ad.add (i.toNat * 7)).off + 4, none⟩ = some (.int .i64 (rd_T25 xs i).f2) ∧ w.cell? ⟨(ad.add (i.toNat * 7)).block, (ad.add (i.toNat * 7)).off + 5, none⟩ = some (.bool (rd_T25 xs i).f3) ∧ w.cell? ⟨(ad.add (i.toNat * 7)).block, (ad.add (i.toNat * 7)).off + 6, none⟩ = some (.bool (rd_T25 xs i).f4) := by
 obtain ⟨ad, c, e, _, hK, hc0⟩ := Kd.C_get h z25 i h0 h1
 have hc : ∀ j u, c[j]? = some u → w.cell? (ad.add (i.toNat * 7 + j)) = some u := hc0
 obtain rfl := k25_open hK
 exact ⟨ad, e, hc 0 _ rfl, by rw [← add_field _ _ 1 (by omega)]; exact hc 1 _ rfl, by rw [← add_field _ _ 2 (by omega)]; exact hc 2 _ rfl, by rw [← add_field _ _ 3 (by omega)]; exact hc 3 _ rfl, by rw [← add_field _ _ 4 (by omega)]; exact hc 4 _ rfl, by rw [← add_field _ _ 5 (by omega)]; exact hc 5 _ rfl, by rw [← add_field _ _ 6 (by omega)]; exact hc 6 _ rfl⟩
theorem eqA23 (d : Nat) (w : World) (x0 y0 : Int) (x1 y1 : Int) :
  (Op.equalIn (d + 2) 23 (.agg #[.int .i64 x0, .int .i64 x1]) (.agg #[.int .i64 y0, .int .i64 y1])).run Tryd.prog w = .ok (x0 == y0 && (x1 == y1)) w := by
 refine eqA_of Tryd.underlying23 (by kernel_rfl) ?_
 refine eqf_cons (by rfl) (by go_simp; rfl) (by go_simp; rfl) (by go_simp) ?_
 exact eqf_last (by rfl) (by go_simp; rfl) (by go_simp; rfl) (by go_simp)
theorem eqA25 (d : Nat) (w : World) (x0 y0 : Int) (x1 y1 : Int) (x2 y2 : Int) (x3 y3 : Int) (x4 y4 : Int) (x5 y5 : Bool) (x6 y6 : Bool) :
  (Op.equalIn (d + 3) 25 (.agg #[.int .i64 x0, .int .i64 x1, .int .i64 x2, .int .i64 x3, .int .i64 x4, .bool x5, .bool x6]) (.agg #[.int .i64 y0, .int .i64 y1, .int .i64 y2, .int .i64 y3, .int .i64 y4, .bool y5, .bool y6])).run Tryd.prog w = .ok ((x0 == y0 && (x1 == y1)) && ((x2 == y2 && (x3 == y3)) && (x4 == y4 && (x5 == y5 && (x6 == y6))))) w := by
 refine eqA_of Tryd.underlying25 (by kernel_rfl) ?_
 refine eqf_cons (by rfl) (by go_simp) (by go_simp) (eqA23 (d + 0) w _ _ _ _) ?_
 refine eqf_cons (by rfl) (by go_simp) (by go_simp) (eqA23 (d + 0) w _ _ _ _) ?_
 refine eqf_cons (by rfl) (by go_simp; rfl) (by go_simp; rfl) (by go_simp) ?_
 refine eqf_cons (by rfl) (by go_simp; rfl) (by go_simp; rfl) (by go_simp) ?_
 exact eqf_last (by rfl) (by go_simp; rfl) (by go_simp; rfl) (by go_simp)
end Go.Proofs.YtlibjgmnookakaaDoor.SSpanMakes
namespace Go.Proofs.YtlibjgmnookakaaDoor.SSpanMakes
open Go.RowKit Go.Proofs.YtlibjgmnookakaaDoor.Wd.PrintWords Go.Proofs.YtlibjgmnookakaaDoor.Wd.PrintLast Go.Proofs.YtlibjgmnookakaaDoor.Wd.PrintMore
attribute [local go_sem] max2_int min2_int max_two min_two max_three min_three max_four min_four
attribute [local go_sem] max2_int min2_int max_two min_two max_three min_three max_four min_four
attribute [local go_sem] max2_int min2_int max_two min_two max_three min_three max_four min_four
attribute [local go_sem high] eqA23
attribute [local go_sem high] eqA25
def ratio_divisor.l0 : Nat → Int → Int → Option (Int)
 | 0, _, _ => none
 | k + 1, x0, x1 => if x1 = 0 then (some x0) else (ratio_divisor.l0 k x1 (Int.tmod x0 x1))
def ratio_divisor.f (k : Nat) (a0 : Int) (a1 : Int) : Option (Int) := ratio_divisor.l0 k a0 a1
theorem ratio_divisor.mono_l : ∀ k, (∀ y0 y1, LeO (ratio_divisor.l0 k y0 y1) (ratio_divisor.l0 (k + 1) y0 y1))
 | 0 => fun _ _ r h => by simp [ratio_divisor.l0] at h
 | k + 1 => by
  have ih0 := ratio_divisor.mono_l k
  ·
   intro y0 y1
   unfold ratio_divisor.l0
   repeat' first
   | (with_reducible exact ih0 _ _)
   | (with_reducible exact LeO.refl _)
   | (with_reducible exact LeO.none _)
   | (with_reducible refine LeO.ite ?_ ?_)
   | (with_reducible refine LeO.bind ?_ (fun _ => ?_))
   | exact ih0 _ _
   | exact LeO.none _
   | refine LeO.ite ?_ ?_
   | refine LeO.bind ?_ (fun _ => ?_)
theorem ratio_divisor.mono : ∀ a0 a1 k, LeO (ratio_divisor.f k a0 a1) (ratio_divisor.f (k + 1) a0 a1) := by
 intro a0 a1 k
 have ih0 := ratio_divisor.mono_l k
 unfold ratio_divisor.f
 repeat' first
   | (with_reducible exact ih0 _ _)
   | (with_reducible exact LeO.refl _)
   | (with_reducible exact LeO.none _)
   | (with_reducible refine LeO.ite ?_ ?_)
   | (with_reducible refine LeO.bind ?_ (fun _ => ?_))
   | exact ih0 _ _
   | exact LeO.none _
   | refine LeO.ite ?_ ?_
   | refine LeO.bind ?_ (fun _ => ?_)
set_option maxHeartbeats 8000000 in
set_option maxRecDepth 100000 in
theorem ratio_divisor.calls (k : Nat) (a0 : Int) (a1 : Int) (r : Int) (w : World) (h : ratio_divisor.f k a0 a1 = some r) :
  Calls Tryd.prog 30 #[.int .u64 a0, .int .u64 a1] w fun e w' => e = .returned (.int .u64 r) ∧ Drawn0 w w' := by
 have H : (ratio_divisor.l0 k a0 a1) = some r := h; clear h; have H' := Aside0.mk H; clear H; go_enter Tryd.func30, Tryd.ntmps30; go_wp2; repeat (go_quiet (fail); try go_wp2)
 go_loopg [0, 1] k (fun kq v0 v1 w' => ∃ (x0_1 : Int) (x1_1 : Int), v0 = .int .u64 x0_1 ∧ v1 = .int .u64 x1_1 ∧ Aside0 (ratio_divisor.l0 kq x0_1 x1_1 = some r) ∧ Aside0 (kq ≤ k) ∧ Drawn0 w w')
 case atStart => exact ⟨(a0), (a1), (by first | rfl | (simp; done) | (simp [*]; done)), (by first | rfl | (simp; done) | (simp [*]; done)), H', ⟨Nat.le_refl _⟩, by repeat (first | exact Drawn0.refl _ | apply Drawn0.step)⟩
 case round =>
  clear H'; (try clear p2); obtain ⟨x0_1, x1_1, rfl, rfl, HA, HK1, ⟨m1, rfl⟩⟩ := hrel; cases gk with
  | zero => exact absurd HA.out (by simp [ratio_divisor.l0])
  | succ k1 =>
   have H := HA.out; clear HA; simp only [ratio_divisor.l0] at H; by_cases c3 : x1_1 = 0
   · rw [if_pos c3] at H; have c3b0 : (x1_1 == 0) = true := beq_iff_eq.mpr c3; have c3b1 : (x1_1 != 0) = false := bne_eq_false_iff_eq.mpr c3; clear c3; obtain rfl := Option.some.inj H; go_wp2; (repeat (go_quiet (fail); try go_wp2)); go_ret; exact ⟨by first | rfl | (simp; done) | (simp [*]; done), by repeat (first | exact Drawn0.refl _ | apply Drawn0.step)⟩
   ·
    rw [if_neg c3] at H; have c3b0 : (x1_1 == 0) = false := beq_eq_false_iff_ne.mpr c3; have c3b1 : (x1_1 != 0) = true := bne_iff_ne.mpr c3; have H' := Aside0.mk H; clear H; go_wp2; (repeat (go_quiet (fail); try go_wp2)); go_roundg k1
    case measure => have := HK1.out; omega
    case rel => exact ⟨(x1_1), (Int.tmod x0_1 x1_1), (by first | rfl | (simp; done) | (simp [*]; done)), (by first | rfl | (simp; done) | (simp [*]; done)), H', ⟨by have := HK1.out; omega⟩, by repeat (first | exact Drawn0.refl _ | apply Drawn0.step)⟩
def ratio_size.f (a0 : Int) : Option (Int) := if a0 < 0 then (some (IntKind.u64.wrap (-(IntKind.u64.wrap (a0))))) else (some (IntKind.u64.wrap (a0)))
set_option maxHeartbeats 8000000 in
set_option maxRecDepth 100000 in
theorem ratio_size.calls (a0 : Int) (r : Int) (w : World) (h : ratio_size.f a0 = some r) :
  Calls Tryd.prog 31 #[.int .i64 a0] w fun e w' => e = .returned (.int .u64 r) ∧ Drawn0 w w' := by
 have H : (if a0 < 0 then (some (IntKind.u64.wrap (-(IntKind.u64.wrap (a0))))) else (some (IntKind.u64.wrap (a0)))) = some r := h; clear h; by_cases c2 : a0 < 0
 · rw [if_pos c2] at H; have c2b0 : decide (a0 < 0) = true := decide_eq_true c2; clear c2; obtain rfl := Option.some.inj H; go_enter Tryd.func31, Tryd.ntmps31; go_wp2; go_ret; exact ⟨by first | rfl | (simp; done) | (simp [*]; done), by repeat (first | exact Drawn0.refl _ | apply Drawn0.step)⟩
 · rw [if_neg c2] at H; have c2b0 : decide (a0 < 0) = false := decide_eq_false c2; clear c2; obtain rfl := Option.some.inj H; go_enter Tryd.func31, Tryd.ntmps31; go_wp2; go_ret; exact ⟨by first | rfl | (simp; done) | (simp [*]; done), by repeat (first | exact Drawn0.refl _ | apply Drawn0.step)⟩
def ratio_Is.f (k : Nat) (a0_0 : Int) (a0_1 : Int) : Option (Bool) := if a0_1 ≥ 1 then (if a0_1 ≤ 1073741824 then (if a0_0 ≥ (-1073741824) then (if a0_0 ≤ 1073741824 then ((ratio_size.f a0_0).bind fun t102 => ((ratio_size.f a0_1).bind fun t103 => ((ratio_divisor.f k t102 t103).bind fun t104 => (some (t104 == 1))))) else (some false)) else (some false)) else (some false)) else (some false)
theorem ratio_Is.mono : ∀ a0 a1 k, LeO (ratio_Is.f k a0 a1) (ratio_Is.f (k + 1) a0 a1) := by
 intro a0 a1 k
 unfold ratio_Is.f
 repeat' first
   | (with_reducible exact ratio_divisor.mono _ _ _)
   | (with_reducible exact LeO.refl _)
   | (with_reducible exact LeO.none _)
   | (with_reducible refine LeO.ite ?_ ?_)
   | (with_reducible refine LeO.bind ?_ (fun _ => ?_))
   | exact ratio_divisor.mono _ _ _
   | exact LeO.none _
   | refine LeO.ite ?_ ?_
   | refine LeO.bind ?_ (fun _ => ?_)
set_option maxHeartbeats 8000000 in
set_option maxRecDepth 100000 in
theorem ratio_Is.calls (k : Nat) (a0_0 : Int) (a0_1 : Int) (r : Bool) (w : World) (h : ratio_Is.f k a0_0 a0_1 = some r) :
  Calls Tryd.prog 15 #[.agg #[.int .i64 a0_0, .int .i64 a0_1]] w fun e w' => e = .returned (.bool r) ∧ Below w.heap.size w w' := by
 have hu23 := Tryd.underlying23; have HB := Aside0.mk (Below.refl w.heap.size w); have H : (if a0_1 ≥ 1 then (if a0_1 ≤ 1073741824 then (if a0_0 ≥ (-1073741824) then (if a0_0 ≤ 1073741824 then ((ratio_size.f a0_0).bind fun t102 => ((ratio_size.f a0_1).bind fun t103 => ((ratio_divisor.f k t102 t103).bind fun t104 => (some (t104 == 1))))) else (some false)) else (some false)) else (some false)) else (some false)) = some r := h; clear h; by_cases c2 : a0_1 ≥ 1
 ·
  rw [if_pos c2] at H; have c2b0 : decide (1 ≤ a0_1) = true := decide_eq_true c2; clear c2; by_cases c3 : a0_1 ≤ 1073741824
  ·
   rw [if_pos c3] at H; have c3b0 : decide (a0_1 ≤ 1073741824) = true := decide_eq_true c3; clear c3; by_cases c4 : a0_0 ≥ (-1073741824)
   ·
    rw [if_pos c4] at H; have c4b0 : decide ((-1073741824) ≤ a0_0) = true := decide_eq_true c4; clear c4; by_cases c5 : a0_0 ≤ 1073741824
    · rw [if_pos c5] at H; have c5b0 : decide (a0_0 ≤ 1073741824) = true := decide_eq_true c5; clear c5; replace H := Option.bind_eq_some_iff.mp H; obtain ⟨t102, A60, H⟩ := H; (try dsimp only at H); have A6 := Aside0.mk A60; clear A60; replace H := Option.bind_eq_some_iff.mp H; obtain ⟨t103, A70, H⟩ := H; (try dsimp only at H); have A7 := Aside0.mk A70; clear A70; replace H := Option.bind_eq_some_iff.mp H; obtain ⟨t104, A80, H⟩ := H; (try dsimp only at H); have A8 := Aside0.mk A80; clear A80; obtain rfl := Option.some.inj H; go_enter Tryd.func15, Tryd.ntmps15; go_wp2_with (first | ((with_reducible refine gate_dst (N := 1) rfl ?_); refine box_event ?hg (N := 1) ?hd (cs := #[.int .i64 a0_0, .int .i64 a0_1]) (t := 23) ?hr ?_; (case hd => rfl); (case hg => rfl); (case hr => first | (go_simp; done) | (go_simp; rfl)); intro gb101 hg w9 hbox hb; have BK101 := Aside0.mk (hbox); have GW101 := hz_ hg HB; have GE101 := hz_ hg HB; replace HB := hs HB hb; clear hb hbox hg; obtain ⟨hcz10_0, hcz10_1⟩ := bc2 BK101.out; obtain ⟨hfz10_0, hfz10_1⟩ := bf2 BK101.out) | (go_at_call 31; (with_reducible refine (ratio_size.calls a0_0 t102 _ A6.out).mono ?_); rintro e w' ⟨rfl, ⟨nd, rfl⟩⟩; (try first | exact ⟨rfl, _, World.drewN_drewN _ _ _⟩ | exact ⟨rfl, _, Eq.trans (World.drewN_drewN _ _ _) (congrArg (World.drewN _) (Nat.add_assoc _ _ _))⟩)) | (go_at_call 31; (with_reducible refine (ratio_size.calls a0_1 t103 _ A7.out).mono ?_); rintro e w' ⟨rfl, ⟨nd, rfl⟩⟩; (try first | exact ⟨rfl, _, World.drewN_drewN _ _ _⟩ | exact ⟨rfl, _, Eq.trans (World.drewN_drewN _ _ _) (congrArg (World.drewN _) (Nat.add_assoc _ _ _))⟩)) | (go_at_call 30; (with_reducible refine (ratio_divisor.calls k t102 t103 t104 _ A8.out).mono ?_); rintro e w' ⟨rfl, ⟨nd, rfl⟩⟩; (try first | exact ⟨rfl, _, World.drewN_drewN _ _ _⟩ | exact ⟨rfl, _, Eq.trans (World.drewN_drewN _ _ _) (congrArg (World.drewN _) (Nat.add_assoc _ _ _))⟩))); (repeat (go_quiet (first | ((with_reducible refine gate_dst (N := 1) rfl ?_); refine box_event ?hg (N := 1) ?hd (cs := #[.int .i64 a0_0, .int .i64 a0_1]) (t := 23) ?hr ?_; (case hd => rfl); (case hg => rfl); (case hr => first | (go_simp; done) | (go_simp; rfl)); intro gb101 hg w9 hbox hb; have BK101 := Aside0.mk (hbox); have GW101 := hz_ hg HB; have GE101 := hz_ hg HB; replace HB := hs HB hb; clear hb hbox hg; obtain ⟨hcz10_0, hcz10_1⟩ := bc2 BK101.out; obtain ⟨hfz10_0, hfz10_1⟩ := bf2 BK101.out) | (go_at_call 31; (with_reducible refine (ratio_size.calls a0_0 t102 _ A6.out).mono ?_); rintro e w' ⟨rfl, ⟨nd, rfl⟩⟩; (try first | exact ⟨rfl, _, World.drewN_drewN _ _ _⟩ | exact ⟨rfl, _, Eq.trans (World.drewN_drewN _ _ _) (congrArg (World.drewN _) (Nat.add_assoc _ _ _))⟩)) | (go_at_call 31; (with_reducible refine (ratio_size.calls a0_1 t103 _ A7.out).mono ?_); rintro e w' ⟨rfl, ⟨nd, rfl⟩⟩; (try first | exact ⟨rfl, _, World.drewN_drewN _ _ _⟩ | exact ⟨rfl, _, Eq.trans (World.drewN_drewN _ _ _) (congrArg (World.drewN _) (Nat.add_assoc _ _ _))⟩)) | (go_at_call 30; (with_reducible refine (ratio_divisor.calls k t102 t103 t104 _ A8.out).mono ?_); rintro e w' ⟨rfl, ⟨nd, rfl⟩⟩; (try first | exact ⟨rfl, _, World.drewN_drewN _ _ _⟩ | exact ⟨rfl, _, Eq.trans (World.drewN_drewN _ _ _) (congrArg (World.drewN _) (Nat.add_assoc _ _ _))⟩))); try go_wp2_with (first | ((with_reducible refine gate_dst (N := 1) rfl ?_); refine box_event ?hg (N := 1) ?hd (cs := #[.int .i64 a0_0, .int .i64 a0_1]) (t := 23) ?hr ?_; (case hd => rfl); (case hg => rfl); (case hr => first | (go_simp; done) | (go_simp; rfl)); intro gb101 hg w9 hbox hb; have BK101 := Aside0.mk (hbox); have GW101 := hz_ hg HB; have GE101 := hz_ hg HB; replace HB := hs HB hb; clear hb hbox hg; obtain ⟨hcz10_0, hcz10_1⟩ := bc2 BK101.out; obtain ⟨hfz10_0, hfz10_1⟩ := bf2 BK101.out) | (go_at_call 31; (with_reducible refine (ratio_size.calls a0_0 t102 _ A6.out).mono ?_); rintro e w' ⟨rfl, ⟨nd, rfl⟩⟩; (try first | exact ⟨rfl, _, World.drewN_drewN _ _ _⟩ | exact ⟨rfl, _, Eq.trans (World.drewN_drewN _ _ _) (congrArg (World.drewN _) (Nat.add_assoc _ _ _))⟩)) | (go_at_call 31; (with_reducible refine (ratio_size.calls a0_1 t103 _ A7.out).mono ?_); rintro e w' ⟨rfl, ⟨nd, rfl⟩⟩; (try first | exact ⟨rfl, _, World.drewN_drewN _ _ _⟩ | exact ⟨rfl, _, Eq.trans (World.drewN_drewN _ _ _) (congrArg (World.drewN _) (Nat.add_assoc _ _ _))⟩)) | (go_at_call 30; (with_reducible refine (ratio_divisor.calls k t102 t103 t104 _ A8.out).mono ?_); rintro e w' ⟨rfl, ⟨nd, rfl⟩⟩; (try first | exact ⟨rfl, _, World.drewN_drewN _ _ _⟩ | exact ⟨rfl, _, Eq.trans (World.drewN_drewN _ _ _) (congrArg (World.drewN _) (Nat.add_assoc _ _ _))⟩))))); go_ret; exact ⟨by first | rfl | (simp [errW_none, errW_some] <;> rfl) | (simp [*, errW_none, errW_some] <;> rfl), by repeat first | (with_reducible exact HB.out) | (with_reducible refine bset ?_ ‹_›) | refine bl1 ?_ | exact HB.out⟩
    · rw [if_neg c5] at H; have c5b0 : decide (a0_0 ≤ 1073741824) = false := decide_eq_false c5; clear c5; obtain rfl := Option.some.inj H; go_enter Tryd.func15, Tryd.ntmps15; go_wp2_with (first | ((with_reducible refine gate_dst (N := 1) rfl ?_); refine box_event ?hg (N := 1) ?hd (cs := #[.int .i64 a0_0, .int .i64 a0_1]) (t := 23) ?hr ?_; (case hd => rfl); (case hg => rfl); (case hr => first | (go_simp; done) | (go_simp; rfl)); intro gb101 hg w11 hbox hb; have BK101 := Aside0.mk (hbox); have GW101 := hz_ hg HB; have GE101 := hz_ hg HB; replace HB := hs HB hb; clear hb hbox hg; obtain ⟨hcz12_0, hcz12_1⟩ := bc2 BK101.out; obtain ⟨hfz12_0, hfz12_1⟩ := bf2 BK101.out)); (repeat (go_quiet (first | ((with_reducible refine gate_dst (N := 1) rfl ?_); refine box_event ?hg (N := 1) ?hd (cs := #[.int .i64 a0_0, .int .i64 a0_1]) (t := 23) ?hr ?_; (case hd => rfl); (case hg => rfl); (case hr => first | (go_simp; done) | (go_simp; rfl)); intro gb101 hg w11 hbox hb; have BK101 := Aside0.mk (hbox); have GW101 := hz_ hg HB; have GE101 := hz_ hg HB; replace HB := hs HB hb; clear hb hbox hg; obtain ⟨hcz12_0, hcz12_1⟩ := bc2 BK101.out; obtain ⟨hfz12_0, hfz12_1⟩ := bf2 BK101.out)); try go_wp2_with (first | ((with_reducible refine gate_dst (N := 1) rfl ?_); refine box_event ?hg (N := 1) ?hd (cs := #[.int .i64 a0_0, .int .i64 a0_1]) (t := 23) ?hr ?_; (case hd => rfl); (case hg => rfl); (case hr => first | (go_simp; done) | (go_simp; rfl)); intro gb101 hg w11 hbox hb; have BK101 := Aside0.mk (hbox); have GW101 := hz_ hg HB; have GE101 := hz_ hg HB; replace HB := hs HB hb; clear hb hbox hg; obtain ⟨hcz12_0, hcz12_1⟩ := bc2 BK101.out; obtain ⟨hfz12_0, hfz12_1⟩ := bf2 BK101.out)))); go_ret; exact ⟨by first | rfl | (simp [errW_none, errW_some] <;> rfl) | (simp [*, errW_none, errW_some] <;> rfl), by repeat first | (with_reducible exact HB.out) | (with_reducible refine bset ?_ ‹_›) | refine bl1 ?_ | exact HB.out⟩
   · rw [if_neg c4] at H; have c4b0 : decide ((-1073741824) ≤ a0_0) = false := decide_eq_false c4; clear c4; obtain rfl := Option.some.inj H; go_enter Tryd.func15, Tryd.ntmps15; go_wp2_with (first | ((with_reducible refine gate_dst (N := 1) rfl ?_); refine box_event ?hg (N := 1) ?hd (cs := #[.int .i64 a0_0, .int .i64 a0_1]) (t := 23) ?hr ?_; (case hd => rfl); (case hg => rfl); (case hr => first | (go_simp; done) | (go_simp; rfl)); intro gb101 hg w13 hbox hb; have BK101 := Aside0.mk (hbox); have GW101 := hz_ hg HB; have GE101 := hz_ hg HB; replace HB := hs HB hb; clear hb hbox hg; obtain ⟨hcz14_0, hcz14_1⟩ := bc2 BK101.out; obtain ⟨hfz14_0, hfz14_1⟩ := bf2 BK101.out)); (repeat (go_quiet (first | ((with_reducible refine gate_dst (N := 1) rfl ?_); refine box_event ?hg (N := 1) ?hd (cs := #[.int .i64 a0_0, .int .i64 a0_1]) (t := 23) ?hr ?_; (case hd => rfl); (case hg => rfl); (case hr => first | (go_simp; done) | (go_simp; rfl)); intro gb101 hg w13 hbox hb; have BK101 := Aside0.mk (hbox); have GW101 := hz_ hg HB; have GE101 := hz_ hg HB; replace HB := hs HB hb; clear hb hbox hg; obtain ⟨hcz14_0, hcz14_1⟩ := bc2 BK101.out; obtain ⟨hfz14_0, hfz14_1⟩ := bf2 BK101.out)); try go_wp2_with (first | ((with_reducible refine gate_dst (N := 1) rfl ?_); refine box_event ?hg (N := 1) ?hd (cs := #[.int .i64 a0_0, .int .i64 a0_1]) (t := 23) ?hr ?_; (case hd => rfl); (case hg => rfl); (case hr => first | (go_simp; done) | (go_simp; rfl)); intro gb101 hg w13 hbox hb; have BK101 := Aside0.mk (hbox); have GW101 := hz_ hg HB; have GE101 := hz_ hg HB; replace HB := hs HB hb; clear hb hbox hg; obtain ⟨hcz14_0, hcz14_1⟩ := bc2 BK101.out; obtain ⟨hfz14_0, hfz14_1⟩ := bf2 BK101.out)))); go_ret; exact ⟨by first | rfl | (simp [errW_none, errW_some] <;> rfl) | (simp [*, errW_none, errW_some] <;> rfl), by repeat first | (with_reducible exact HB.out) | (with_reducible refine bset ?_ ‹_›) | refine bl1 ?_ | exact HB.out⟩
  · rw [if_neg c3] at H; have c3b0 : decide (a0_1 ≤ 1073741824) = false := decide_eq_false c3; clear c3; obtain rfl := Option.some.inj H; go_enter Tryd.func15, Tryd.ntmps15; go_wp2_with (first | ((with_reducible refine gate_dst (N := 1) rfl ?_); refine box_event ?hg (N := 1) ?hd (cs := #[.int .i64 a0_0, .int .i64 a0_1]) (t := 23) ?hr ?_; (case hd => rfl); (case hg => rfl); (case hr => first | (go_simp; done) | (go_simp; rfl)); intro gb101 hg w15 hbox hb; have BK101 := Aside0.mk (hbox); have GW101 := hz_ hg HB; have GE101 := hz_ hg HB; replace HB := hs HB hb; clear hb hbox hg; obtain ⟨hcz16_0, hcz16_1⟩ := bc2 BK101.out; obtain ⟨hfz16_0, hfz16_1⟩ := bf2 BK101.out)); (repeat (go_quiet (first | ((with_reducible refine gate_dst (N := 1) rfl ?_); refine box_event ?hg (N := 1) ?hd (cs := #[.int .i64 a0_0, .int .i64 a0_1]) (t := 23) ?hr ?_; (case hd => rfl); (case hg => rfl); (case hr => first | (go_simp; done) | (go_simp; rfl)); intro gb101 hg w15 hbox hb; have BK101 := Aside0.mk (hbox); have GW101 := hz_ hg HB; have GE101 := hz_ hg HB; replace HB := hs HB hb; clear hb hbox hg; obtain ⟨hcz16_0, hcz16_1⟩ := bc2 BK101.out; obtain ⟨hfz16_0, hfz16_1⟩ := bf2 BK101.out)); try go_wp2_with (first | ((with_reducible refine gate_dst (N := 1) rfl ?_); refine box_event ?hg (N := 1) ?hd (cs := #[.int .i64 a0_0, .int .i64 a0_1]) (t := 23) ?hr ?_; (case hd => rfl); (case hg => rfl); (case hr => first | (go_simp; done) | (go_simp; rfl)); intro gb101 hg w15 hbox hb; have BK101 := Aside0.mk (hbox); have GW101 := hz_ hg HB; have GE101 := hz_ hg HB; replace HB := hs HB hb; clear hb hbox hg; obtain ⟨hcz16_0, hcz16_1⟩ := bc2 BK101.out; obtain ⟨hfz16_0, hfz16_1⟩ := bf2 BK101.out)))); go_ret; exact ⟨by first | rfl | (simp [errW_none, errW_some] <;> rfl) | (simp [*, errW_none, errW_some] <;> rfl), by repeat first | (with_reducible exact HB.out) | (with_reducible refine bset ?_ ‹_›) | refine bl1 ?_ | exact HB.out⟩
 · rw [if_neg c2] at H; have c2b0 : decide (1 ≤ a0_1) = false := decide_eq_false c2; clear c2; obtain rfl := Option.some.inj H; go_enter Tryd.func15, Tryd.ntmps15; go_wp2_with (first | ((with_reducible refine gate_dst (N := 1) rfl ?_); refine box_event ?hg (N := 1) ?hd (cs := #[.int .i64 a0_0, .int .i64 a0_1]) (t := 23) ?hr ?_; (case hd => rfl); (case hg => rfl); (case hr => first | (go_simp; done) | (go_simp; rfl)); intro gb101 hg w17 hbox hb; have BK101 := Aside0.mk (hbox); have GW101 := hz_ hg HB; have GE101 := hz_ hg HB; replace HB := hs HB hb; clear hb hbox hg; obtain ⟨hcz18_0, hcz18_1⟩ := bc2 BK101.out; obtain ⟨hfz18_0, hfz18_1⟩ := bf2 BK101.out)); (repeat (go_quiet (first | ((with_reducible refine gate_dst (N := 1) rfl ?_); refine box_event ?hg (N := 1) ?hd (cs := #[.int .i64 a0_0, .int .i64 a0_1]) (t := 23) ?hr ?_; (case hd => rfl); (case hg => rfl); (case hr => first | (go_simp; done) | (go_simp; rfl)); intro gb101 hg w17 hbox hb; have BK101 := Aside0.mk (hbox); have GW101 := hz_ hg HB; have GE101 := hz_ hg HB; replace HB := hs HB hb; clear hb hbox hg; obtain ⟨hcz18_0, hcz18_1⟩ := bc2 BK101.out; obtain ⟨hfz18_0, hfz18_1⟩ := bf2 BK101.out)); try go_wp2_with (first | ((with_reducible refine gate_dst (N := 1) rfl ?_); refine box_event ?hg (N := 1) ?hd (cs := #[.int .i64 a0_0, .int .i64 a0_1]) (t := 23) ?hr ?_; (case hd => rfl); (case hg => rfl); (case hr => first | (go_simp; done) | (go_simp; rfl)); intro gb101 hg w17 hbox hb; have BK101 := Aside0.mk (hbox); have GW101 := hz_ hg HB; have GE101 := hz_ hg HB; replace HB := hs HB hb; clear hb hbox hg; obtain ⟨hcz18_0, hcz18_1⟩ := bc2 BK101.out; obtain ⟨hfz18_0, hfz18_1⟩ := bf2 BK101.out)))); go_ret; exact ⟨by first | rfl | (simp [errW_none, errW_some] <;> rfl) | (simp [*, errW_none, errW_some] <;> rfl), by repeat first | (with_reducible exact HB.out) | (with_reducible refine bset ?_ ‹_›) | refine bl1 ?_ | exact HB.out⟩
def ratio_sign.f (a0 : Bool) (a1 : Bool) : Option (Int) := if a0 = true then (some (-1)) else (if a1 = true then (some 1) else (some 0))
set_option maxHeartbeats 8000000 in
set_option maxRecDepth 100000 in
theorem ratio_sign.calls (a0 : Bool) (a1 : Bool) (r : Int) (w : World) (h : ratio_sign.f a0 a1 = some r) :
  Calls Tryd.prog 32 #[.bool a0, .bool a1] w fun e w' => e = .returned (.int .i64 r) ∧ Drawn0 w w' := by
 have H : (if a0 = true then (some (-1)) else (if a1 = true then (some 1) else (some 0))) = some r := h; clear h; by_cases c3 : a0 = true
 · subst c3; rw [if_pos rfl] at H; obtain rfl := Option.some.inj H; go_enter Tryd.func32, Tryd.ntmps32; go_wp2; go_ret; exact ⟨by first | rfl | (simp; done) | (simp [*]; done), by repeat (first | exact Drawn0.refl _ | apply Drawn0.step)⟩
 ·
  replace c3 := Bool.eq_false_iff.mpr c3; subst c3; rw [if_neg (show ¬ (false = true) by decide)] at H; by_cases c4 : a1 = true
  · subst c4; rw [if_pos rfl] at H; obtain rfl := Option.some.inj H; go_enter Tryd.func32, Tryd.ntmps32; go_wp2; go_ret; exact ⟨by first | rfl | (simp; done) | (simp [*]; done), by repeat (first | exact Drawn0.refl _ | apply Drawn0.step)⟩
  · replace c4 := Bool.eq_false_iff.mpr c4; subst c4; rw [if_neg (show ¬ (false = true) by decide)] at H; obtain rfl := Option.some.inj H; go_enter Tryd.func32, Tryd.ntmps32; go_wp2; go_ret; exact ⟨by first | rfl | (simp; done) | (simp [*]; done), by repeat (first | exact Drawn0.refl _ | apply Drawn0.step)⟩
def ratio_Cmp.j0 : Nat → Bool → Bool → Bool → Int → Int → Int → Int → Option (Int)
 | 0, _, _, _, _, _, _, _ => none
 | k + 1, x5, x6, x18, x106000, x106001, x107000, x107001 => if x18 = true then (if x5 = true then ((ratio_sign.f false (!x6)).bind fun t109 => (some t109)) else ((ratio_sign.f x6 false).bind fun t110 => (some t110))) else ((ratio_sign.f (decide ((wrap64 (x106000 * x107001)) < (wrap64 (x107000 * x106001)))) (decide ((wrap64 (x106000 * x107001)) > (wrap64 (x107000 * x106001))))).bind fun t111 => (some t111))
def ratio_Cmp.f (k : Nat) (a0_0 : Int) (a0_1 : Int) (a1_0 : Int) (a1_1 : Int) : Option (Int) := (ratio_Is.f k a0_0 a0_1).bind fun t107 => ((ratio_Is.f k a1_0 a1_1).bind fun t108 => (if t107 = true then (ratio_Cmp.j0 k t107 t108 (!t108) a0_0 a0_1 a1_0 a1_1) else (ratio_Cmp.j0 k t107 t108 true a0_0 a0_1 a1_0 a1_1)))
theorem ratio_Cmp.mono_l : ∀ k, (∀ y0 y1 y2 y3 y4 y5 y6, LeO (ratio_Cmp.j0 k y0 y1 y2 y3 y4 y5 y6) (ratio_Cmp.j0 (k + 1) y0 y1 y2 y3 y4 y5 y6))
 | 0 => fun _ _ _ _ _ _ _ r h => by simp [ratio_Cmp.j0] at h
 | k + 1 => by
  have ih0 := ratio_Cmp.mono_l k
  ·
   intro y0 y1 y2 y3 y4 y5 y6
   unfold ratio_Cmp.j0
   repeat' first
   | (with_reducible exact ih0 _ _ _ _ _ _ _)
   | (with_reducible exact ratio_Is.mono _ _ _)
   | (with_reducible exact LeO.refl _)
   | (with_reducible exact LeO.none _)
   | (with_reducible refine LeO.ite ?_ ?_)
   | (with_reducible refine LeO.bind ?_ (fun _ => ?_))
   | exact ih0 _ _ _ _ _ _ _
   | exact ratio_Is.mono _ _ _
   | exact LeO.none _
   | refine LeO.ite ?_ ?_
   | refine LeO.bind ?_ (fun _ => ?_)
theorem ratio_Cmp.mono : ∀ a0 a1 a2 a3 k, LeO (ratio_Cmp.f k a0 a1 a2 a3) (ratio_Cmp.f (k + 1) a0 a1 a2 a3) := by
 intro a0 a1 a2 a3 k
 have ih0 := ratio_Cmp.mono_l k
 unfold ratio_Cmp.f
 repeat' first
   | (with_reducible exact ih0 _ _ _ _ _ _ _)
   | (with_reducible exact ratio_Is.mono _ _ _)
   | (with_reducible exact LeO.refl _)
   | (with_reducible exact LeO.none _)
   | (with_reducible refine LeO.ite ?_ ?_)
   | (with_reducible refine LeO.bind ?_ (fun _ => ?_))
   | exact ih0 _ _ _ _ _ _ _
   | exact ratio_Is.mono _ _ _
   | exact LeO.none _
   | refine LeO.ite ?_ ?_
   | refine LeO.bind ?_ (fun _ => ?_)
def ratio_Cmp.T4 : Bool × List (List Nat × List Nat) := (true, [([], []), ([0], [0]), ([], []), ([2], [2]), ([1, 3], [1, 3]), ([], []), ([5], [5]), ([], []), ([7], [7]), ([6, 8], [6, 8]), ([4, 0, 1, 2, 3, 4], [4]), ([9, 10, 0, 1, 2, 3, 4, 5, 6, 7, 8, 9, 10], [9])])
def ratio_Cmp.B4 : List Nat := [0, 1, 0, 4, 15, 0, 32, 0, 128, 480, 31, 2047]
theorem ratio_Cmp.tab4 : rtab .any (opsOf Tryd.f16 4) = ratio_Cmp.T4 := by kernel_rfl
theorem ratio_Cmp.bits4 : waitsOk ratio_Cmp.T4.2 ratio_Cmp.B4 = true := by kernel_rfl
set_option maxHeartbeats 8000000 in
set_option maxRecDepth 100000 in
theorem ratio_Cmp.calls (k : Nat) (a0_0 : Int) (a0_1 : Int) (a1_0 : Int) (a1_1 : Int) (r : Int) (w : World) (h : ratio_Cmp.f k a0_0 a0_1 a1_0 a1_1 = some r) :
  Calls Tryd.prog 16 #[.agg #[.int .i64 a0_0, .int .i64 a0_1], .agg #[.int .i64 a1_0, .int .i64 a1_1]] w fun e w' => e = .returned (.int .i64 r) ∧ Below w.heap.size w w' := by
 have hu23 := Tryd.underlying23; have HB := Aside0.mk (Below.refl w.heap.size w); have H : ((ratio_Is.f k a0_0 a0_1).bind fun t107 => ((ratio_Is.f k a1_0 a1_1).bind fun t108 => (if t107 = true then (ratio_Cmp.j0 k t107 t108 (!t108) a0_0 a0_1 a1_0 a1_1) else (ratio_Cmp.j0 k t107 t108 true a0_0 a0_1 a1_0 a1_1)))) = some r := h; clear h; replace H := Option.bind_eq_some_iff.mp H; obtain ⟨t107, A30, H⟩ := H; (try dsimp only at H); have A3 := Aside0.mk A30; clear A30; replace H := Option.bind_eq_some_iff.mp H; obtain ⟨t108, A40, H⟩ := H; (try dsimp only at H); have A4 := Aside0.mk A40; clear A40; have HC5 := Aside0.mk H; clear H; go_enter Tryd.func16, Tryd.ntmps16; (try go_wp2_with (first | ((with_reducible refine gate_dst (N := 2) rfl ?_); refine box_event ?hg (N := 2) ?hd (cs := #[.int .i64 a0_0, .int .i64 a0_1]) (t := 23) ?hr ?_; (case hd => rfl); (case hg => rfl); (case hr => first | (go_simp; done) | (go_simp; rfl)); intro gb105 hg w6 hbox hb; have BK105 := Aside0.mk (hbox); have GW105 := hz_ hg HB; have GE105 := hz_ hg HB; replace HB := hs HB hb; clear hb hbox hg) | ((with_reducible refine gate_dst (N := 3) rfl ?_); refine box_event ?hg (N := 3) ?hd (cs := #[.int .i64 a1_0, .int .i64 a1_1]) (t := 23) ?hr ?_; (case hd => rfl); (case hg => rfl); (case hr => first | (go_simp; done) | (go_simp; rfl)); intro gb106 hg w7 hbox hb; have BK106 := Aside0.mk (hbox); have GW106 := Aside0.mk ((by rw [hg]; exact (below_size (by repeat first | (with_reducible exact HB.out) | refine bl1 ?_ | (with_reducible refine bset ?_ ‹_›) | exact HB.out)) : w.heap.size ≤ gb106)); have GE106 := Aside0.mk ((by rw [hg]; exact (below_size (by repeat first | (with_reducible exact HB.out) | refine bl1 ?_ | (with_reducible refine bset ?_ ‹_›) | exact HB.out)) : w.heap.size ≤ gb106)); have NB105_106 := nlk hg BK105; have NB106_105 := ngk hg BK105; replace BK105 := kb BK105 hb; replace HB := Aside0.mk (below_step (by repeat first | (with_reducible exact HB.out) | refine bl1 ?_ | (with_reducible refine bset ?_ ‹_›) | exact HB.out) hb); clear hb hbox hg))); replace BK105 := kd BK105; replace BK106 := kd BK106; replace HB := Aside0.mk (below_drew1 HB.out); refine start_ (n := 6) (S := fun w' => w'.cell? ⟨gb105, 0, none⟩ = some (.int .i64 a0_0) ∧ w'.cell? ⟨gb105, 1, none⟩ = some (.int .i64 a0_1) ∧ w'.cell? ⟨gb106, 0, none⟩ = some (.int .i64 a1_0) ∧ w'.cell? ⟨gb106, 1, none⟩ = some (.int .i64 a1_1)) (ds := []) (bA 6 0) (by kernel_rfl) rfl rfl ⟨(blk_cell BK105.out 0).trans rfl, (blk_cell BK105.out 1).trans rfl, (blk_cell BK106.out 0).trans rfl, (blk_cell BK106.out 1).trans rfl⟩ (fun hHeld => ?_); generalize w7.drew = w8 at BK105 BK106 HB hHeld ⊢; have hH0 := hHeld; have HBW := hbw w8; refine take_ (i := 0) (N := some 9) (v := ?_) (a' := ?_) (bA 6 1) rfl rfl (by kernel_rfl) (fun _ _ _ h => h) (Or.inl ⟨by rfl, ?_⟩) hHeld ?_ ?_; rotate_left
 · rintro w' ⟨s0, s1, s2, s3⟩; go_simp; with_reducible rfl
 rotate_left
 · simp only [ap]; rfl
 refine take_ (i := 2) (N := some 11) (v := ?_) (a' := ?_) (bA 6 5) rfl rfl (by kernel_rfl) (fun _ _ _ h => h) (Or.inl ⟨by rfl, ?_⟩) hHeld ?_ ?_; rotate_left
 · rintro w' ⟨s0, s1, s2, s3⟩; go_simp; with_reducible rfl
 rotate_left
 · simp only [ap]; rfl
 refine one_ (i := 1) (N := some 10) (bA 6 7) rfl rfl (by kernel_rfl) (by decide) (fun K hK => ?_); refine goes_ Tryd.func15 (by kernel_rfl) rfl #[.agg #[.int .i64 a0_0, .int .i64 a0_1]] (by rfl) rfl rfl (by (try simp only [mp]); first | done | rfl | (simp only [ld]; rfl)) ?_; (with_reducible refine (ratio_Is.calls k a0_0 a0_1 t107 _ A3.out).mono ?_); rintro e w9 ⟨rfl, hb⟩; refine ⟨_, rfl, ?_⟩; replace HBW := hs HBW hb; clear hb; refine hK.out _ _ (hs4 HBW.out hH0) (fun hHeld => ?_); clear hK K; refine norm_ (a' := ?_) ?_ ?_; rotate_left
 · (show Act.put _ (some 10) _ = _); simp only [ap]; rfl
 refine one_ (i := 3) (N := some 12) (bA 6 15) rfl rfl (by kernel_rfl) (by decide) (fun K hK => ?_); refine goes_ Tryd.func15 (by kernel_rfl) rfl #[.agg #[.int .i64 a1_0, .int .i64 a1_1]] (by rfl) rfl rfl (by (try simp only [mp]); first | done | rfl | (simp only [ld]; rfl)) ?_; (with_reducible refine (ratio_Is.calls k a1_0 a1_1 t108 _ A4.out).mono ?_); rintro e w10 ⟨rfl, hb⟩; refine ⟨_, rfl, ?_⟩; replace HBW := hs HBW hb; clear hb; refine hK.out _ _ (hs4 HBW.out hH0) (fun hHeld => ?_); clear hK K; refine norm_ (a' := ?_) ?_ ?_; rotate_left
 · (show Act.put _ (some 12) _ = _); simp only [ap]; rfl
 refine pure_ (i := 4) (N := some 5) (v := ?_) (a' := ?_) (bA 6 31) rfl rfl (by kernel_rfl) (fun _ _ _ h => h) (Or.inl ⟨by rfl, ?_⟩) ?_ ?_; rotate_left
 · intro w'; go_simp; with_reducible rfl
 rotate_left
 · simp only [ap]; rfl
 refine pure_ (i := 5) (N := some 6) (v := ?_) (a' := ?_) (bA 6 63) rfl rfl (by kernel_rfl) (fun _ _ _ h => h) (Or.inl ⟨by rfl, ?_⟩) ?_ ?_; rotate_left
 · intro w'; go_simp; with_reducible rfl
 rotate_left
 · simp only [ap]; rfl
 replace BK105 := kb BK105 HBW.out; replace BK106 := kb BK106 HBW.out; replace HB := hs HB HBW.out; refine done_ (by kernel_rfl) ?_; clear HBW hH0; go_upto_region 2 with (fail)
 go_cut [18] (fun v18 wc => ∃ (kq : Nat) (x18_4 : Bool), v18 = .bool x18_4 ∧ Aside0 (ratio_Cmp.j0 kq t107 t108 x18_4 a0_0 a0_1 a1_0 a1_1 = some r) ∧ Aside0 (kq ≤ k) ∧ Aside0 (wc.heap[gb105]? = some (.cells #[.int .i64 a0_0, .int .i64 a0_1] 23 (0, 0))) ∧ Aside0 (wc.heap[gb106]? = some (.cells #[.int .i64 a1_0, .int .i64 a1_1] 23 (0, 0))) ∧ Aside0 (Below w.heap.size w wc))
 case first =>
  have H := HC5.out; clear HC5; by_cases c11 : t107 = true
  ·
   subst c11; rw [if_pos rfl] at H; have H' := Aside0.mk H; clear H; go_wp2; go_meet
   case rel => exact ⟨_, (!t108), (by first | rfl | (simp; done) | (simp [*]; done)), H', ⟨by first | omega | exact Nat.le_refl _⟩, ⟨by refine bk ?_; exact BK105.out⟩, ⟨by refine bk ?_; exact BK106.out⟩, ⟨by repeat first | (with_reducible exact HB.out) | (with_reducible refine bset ?_ ‹_›) | refine bl1 ?_ | exact HB.out⟩⟩
  ·
   replace c11 := Bool.eq_false_iff.mpr c11; subst c11; rw [if_neg (show ¬ (false = true) by decide)] at H; have H' := Aside0.mk H; clear H; go_wp2; go_meet
   case rel => exact ⟨_, (true), (by first | rfl | (simp; done) | (simp [*]; done)), H', ⟨by first | omega | exact Nat.le_refl _⟩, ⟨by refine bk ?_; exact BK105.out⟩, ⟨by refine bk ?_; exact BK106.out⟩, ⟨by repeat first | (with_reducible exact HB.out) | (with_reducible refine bset ?_ ‹_›) | refine bl1 ?_ | exact HB.out⟩⟩
 case rest =>
  clear HC5; (try clear c1); (try clear p2); (try clear c11); obtain ⟨kq, x18_4, rfl, HA, HJ4, BK105, BK106, HB⟩ := hcut; cases kq with
  | zero => exact absurd HA.out (by simp [ratio_Cmp.j0])
  | succ kj4 =>
   have H := HA.out; clear HA; simp only [ratio_Cmp.j0] at H; by_cases c12 : x18_4 = true
   ·
    subst c12; rw [if_pos rfl] at H; by_cases c13 : t107 = true
    · subst c13; rw [if_pos rfl] at H; replace H := Option.bind_eq_some_iff.mp H; obtain ⟨t109, A140, H⟩ := H; (try dsimp only at H); have A14 := Aside0.mk A140; clear A140; obtain rfl := Option.some.inj H; go_wp2_with (first | ((with_reducible refine gate_callee (f := 32) rfl ?_); refine goesL_ (some 29) rfl rfl Tryd.func32 (by kernel_rfl) rfl #[.bool false, .bool (!t108)] rfl (by (try simp only [mp]); first | done | rfl | (simp only [ld]; rfl)) ?_; (with_reducible refine (ratio_sign.calls false (!t108) t109 _ A14.out).mono ?_); rintro e w' ⟨rfl, ⟨nd, rfl⟩⟩; refine ⟨_, rfl, ?_⟩)); go_ret; exact ⟨by first | rfl | (simp [errW_none, errW_some] <;> rfl) | (simp [*, errW_none, errW_some] <;> rfl), by repeat first | (with_reducible exact HB.out) | (with_reducible refine bset ?_ ‹_›) | refine bl1 ?_ | exact HB.out⟩
    · replace c13 := Bool.eq_false_iff.mpr c13; subst c13; rw [if_neg (show ¬ (false = true) by decide)] at H; replace H := Option.bind_eq_some_iff.mp H; obtain ⟨t110, A150, H⟩ := H; (try dsimp only at H); have A15 := Aside0.mk A150; clear A150; obtain rfl := Option.some.inj H; go_wp2_with (first | ((with_reducible refine gate_callee (f := 32) rfl ?_); refine goesL_ (some 29) rfl rfl Tryd.func32 (by kernel_rfl) rfl #[.bool t108, .bool false] rfl (by (try simp only [mp]); first | done | rfl | (simp only [ld]; rfl)) ?_; (with_reducible refine (ratio_sign.calls t108 false t110 _ A15.out).mono ?_); rintro e w' ⟨rfl, ⟨nd, rfl⟩⟩; refine ⟨_, rfl, ?_⟩)); go_ret; exact ⟨by first | rfl | (simp [errW_none, errW_some] <;> rfl) | (simp [*, errW_none, errW_some] <;> rfl), by repeat first | (with_reducible exact HB.out) | (with_reducible refine bset ?_ ‹_›) | refine bl1 ?_ | exact HB.out⟩
   ·
    replace c12 := Bool.eq_false_iff.mpr c12; subst c12; rw [if_neg (show ¬ (false = true) by decide)] at H; replace H := Option.bind_eq_some_iff.mp H; obtain ⟨t111, A160, H⟩ := H; (try dsimp only at H); have A16 := Aside0.mk A160; clear A160; obtain rfl := Option.some.inj H; (try go_wp2); replace BK105 := kd BK105; replace BK106 := kd BK106; replace HB := Aside0.mk (below_drew1 HB.out); refine start_ (n := 12) (S := fun w' => w'.cell? ⟨gb105, 0, none⟩ = some (.int .i64 a0_0) ∧ w'.cell? ⟨gb105, 1, none⟩ = some (.int .i64 a0_1) ∧ w'.cell? ⟨gb106, 0, none⟩ = some (.int .i64 a1_0) ∧ w'.cell? ⟨gb106, 1, none⟩ = some (.int .i64 a1_1)) (ds := []) (bA 12 0) (by kernel_rfl) rfl rfl ⟨(blk_cell BK105.out 0).trans rfl, (blk_cell BK105.out 1).trans rfl, (blk_cell BK106.out 0).trans rfl, (blk_cell BK106.out 1).trans rfl⟩ (fun hHeld => ?_); refine with_tabW ratio_Cmp.tab4 ratio_Cmp.bits4 (fun HT_ HW_ => ?_); generalize wc.drew = w17 at BK105 BK106 HB hHeld ⊢; refine pure_ (i := 0) (N := some 30) (v := ?_) (a' := ?_) (bA 12 1) rfl rfl (any_of HT_.out (by kernel_rfl)) (fun _ _ _ h => h) (Or.inl ⟨by rfl, ?_⟩) ?_ ?_; rotate_left
    · intro w'; go_simp; with_reducible rfl
    rotate_left
    · simp only [ap]; rfl
    refine pure_ (i := 2) (N := some 32) (v := ?_) (a' := ?_) (bA 12 5) rfl rfl (any_of HT_.out (by kernel_rfl)) (fun _ _ _ h => h) (Or.inl ⟨by rfl, ?_⟩) ?_ ?_; rotate_left
    · intro w'; go_simp; with_reducible rfl
    rotate_left
    · simp only [ap]; rfl
    refine pure_ (i := 5) (N := some 35) (v := ?_) (a' := ?_) (bA 12 37) rfl rfl (any_of HT_.out (by kernel_rfl)) (fun _ _ _ h => h) (Or.inl ⟨by rfl, ?_⟩) ?_ ?_; rotate_left
    · intro w'; go_simp; with_reducible rfl
    rotate_left
    · simp only [ap]; rfl
    refine pure_ (i := 7) (N := some 37) (v := ?_) (a' := ?_) (bA 12 165) rfl rfl (any_of HT_.out (by kernel_rfl)) (fun _ _ _ h => h) (Or.inl ⟨by rfl, ?_⟩) ?_ ?_; rotate_left
    · intro w'; go_simp; with_reducible rfl
    rotate_left
    · simp only [ap]; rfl
    refine take_ (i := 1) (N := some 31) (v := ?_) (a' := ?_) (bA 12 167) rfl rfl (take_ofW HT_.out HW_.out (by kernel_rfl)) (fun _ _ _ h => h) (Or.inl ⟨by rfl, ?_⟩) hHeld ?_ ?_; rotate_left
    · rintro w' ⟨s0, s1, s2, s3⟩; go_simp; with_reducible rfl
    rotate_left
    · simp only [ap]; rfl
    refine take_ (i := 3) (N := some 33) (v := ?_) (a' := ?_) (bA 12 175) rfl rfl (take_ofW HT_.out HW_.out (by kernel_rfl)) (fun _ _ _ h => h) (Or.inl ⟨by rfl, ?_⟩) hHeld ?_ ?_; rotate_left
    · rintro w' ⟨s0, s1, s2, s3⟩; go_simp; with_reducible rfl
    rotate_left
    · simp only [ap]; rfl
    refine pure_ (i := 4) (N := some 34) (v := ?_) (a' := ?_) (bA 12 191) rfl rfl (any_of HT_.out (by kernel_rfl)) (fun _ _ _ h => h) (Or.inl ⟨by rfl, ?_⟩) ?_ ?_; rotate_left
    · intro w'; go_simp; with_reducible rfl
    rotate_left
    · simp only [ap]; rfl
    refine pure_ (i := 10) (N := some 7) (v := ?_) (a' := ?_) (bA 12 1215) rfl rfl (any_of HT_.out (by kernel_rfl)) (fun _ _ _ h => h) (Or.inl ⟨by rfl, ?_⟩) ?_ ?_; rotate_left
    · intro w'; go_simp; with_reducible rfl
    rotate_left
    · simp only [ap]; rfl
    refine take_ (i := 6) (N := some 36) (v := ?_) (a' := ?_) (bA 12 1279) rfl rfl (take_ofW HT_.out HW_.out (by kernel_rfl)) (fun _ _ _ h => h) (Or.inl ⟨by rfl, ?_⟩) hHeld ?_ ?_; rotate_left
    · rintro w' ⟨s0, s1, s2, s3⟩; go_simp; with_reducible rfl
    rotate_left
    · simp only [ap]; rfl
    refine take_ (i := 8) (N := some 38) (v := ?_) (a' := ?_) (bA 12 1535) rfl rfl (take_ofW HT_.out HW_.out (by kernel_rfl)) (fun _ _ _ h => h) (Or.inl ⟨by rfl, ?_⟩) hHeld ?_ ?_; rotate_left
    · rintro w' ⟨s0, s1, s2, s3⟩; go_simp; with_reducible rfl
    rotate_left
    · simp only [ap]; rfl
    refine pure_ (i := 9) (N := some 39) (v := ?_) (a' := ?_) (bA 12 2047) rfl rfl (any_of HT_.out (by kernel_rfl)) (fun _ _ _ h => h) (Or.inl ⟨by rfl, ?_⟩) ?_ ?_; rotate_left
    · intro w'; go_simp; with_reducible rfl
    rotate_left
    · simp only [ap]; rfl
    refine pure_ (i := 11) (N := some 8) (v := ?_) (a' := ?_) (bA 12 4095) rfl rfl (any_of HT_.out (by kernel_rfl)) (fun _ _ _ h => h) (Or.inl ⟨by rfl, ?_⟩) ?_ ?_; rotate_left
    · intro w'; go_simp; with_reducible rfl
    rotate_left
    · simp only [ap]; rfl
    refine done_ (done_of HT_.out (by kernel_rfl)) ?_; (try go_wp2_with (first | ((with_reducible refine gate_callee (f := 32) rfl ?_); refine goesL_ (some 46) rfl rfl Tryd.func32 (by kernel_rfl) rfl #[.bool (decide ((wrap64 (a0_0 * a1_1)) < (wrap64 (a1_0 * a0_1)))), .bool (decide ((wrap64 (a0_0 * a1_1)) > (wrap64 (a1_0 * a0_1))))] rfl (by (try simp only [mp]); first | done | rfl | (simp only [ld]; rfl)) ?_; (with_reducible refine (ratio_sign.calls (decide ((wrap64 (a0_0 * a1_1)) < (wrap64 (a1_0 * a0_1)))) (decide ((wrap64 (a0_0 * a1_1)) > (wrap64 (a1_0 * a0_1)))) t111 _ A16.out).mono ?_); rintro e w' ⟨rfl, ⟨nd, rfl⟩⟩; refine ⟨_, rfl, ?_⟩))); go_ret; exact ⟨by first | rfl | (simp [errW_none, errW_some] <;> rfl) | (simp [*, errW_none, errW_some] <;> rfl), by repeat first | (with_reducible exact HB.out) | (with_reducible refine bset ?_ ‹_›) | refine bl1 ?_ | exact HB.out⟩
def span_empty.f (a0 : Bool) : Option (Int × Int × Int × Int × Int × Bool × Bool) := some (0, 0, 0, 0, 0, a0, true)
set_option maxHeartbeats 8000000 in
set_option maxRecDepth 100000 in
theorem span_empty.calls (a0 : Bool) (r1 : Int) (r2 : Int) (r3 : Int) (r4 : Int) (r5 : Int) (r6 : Bool) (r7 : Bool) (w : World) (h : span_empty.f a0 = some (r1, r2, r3, r4, r5, r6, r7)) :
  Calls Tryd.prog 17 #[.bool a0] w fun e w' => e = .returned (.agg #[.int .i64 r1, .int .i64 r2, .int .i64 r3, .int .i64 r4, .int .i64 r5, .bool r6, .bool r7]) ∧ Below w.heap.size w w' := by
 have hu25 := Tryd.underlying25; have HB := Aside0.mk (Below.refl w.heap.size w); have H : (some (0, 0, 0, 0, 0, a0, true)) = some (r1, r2, r3, r4, r5, r6, r7) := h; clear h; simp only [Option.some.injEq, Prod.mk.injEq] at H; obtain ⟨rfl, rfl, rfl, rfl, rfl, rfl, rfl⟩ := H; go_enter Tryd.func17, Tryd.ntmps17; go_wp2_with (first | ((with_reducible refine gate_dst (N := 2) rfl ?_); refine box_event ?hg (N := 2) ?hd (cs := #[.int .i64 0, .int .i64 0, .int .i64 0, .int .i64 0, .int .i64 0, .bool false, .bool false]) (t := 25) ?hr ?_; (case hd => rfl); (case hg => rfl); (case hr => first | (go_simp; done) | (go_simp; rfl)); intro gb112 hg w2 hbox hb; have BK112 := Aside0.mk (hbox); have GW112 := hz_ hg HB; have GE112 := hz_ hg HB; replace HB := hs HB hb; clear hb hbox hg; obtain ⟨hcz3_0, hcz3_1, hcz3_2, hcz3_3, hcz3_4, hcz3_5, hcz3_6⟩ := bc7 BK112.out; obtain ⟨hfz3_0, hfz3_1, hfz3_2, hfz3_3, hfz3_4, hfz3_5, hfz3_6⟩ := bf7 BK112.out)); refine bodyPost_ret (results_cell_row rfl _ _ gb112 25 #[.int .i64 0, .int .i64 0, .int .i64 0, .int .i64 0, .int .i64 0, .bool a0, .bool true] (0, 0) _ rfl (by exact rq BK112.out (by rfl)) Tryd.underlying25 rfl (by kernel_rfl)) rfl ?_; exact ⟨by first | rfl | (simp [errW_none, errW_some] <;> rfl) | (simp [*, errW_none, errW_some] <;> rfl), by repeat first | (with_reducible exact HB.out) | (with_reducible refine bset ?_ ‹_›) | refine bl1 ?_ | exact HB.out⟩
mutual
def span_Make.j0 : Nat → Int → Int → Int → Int → Int → Int → Int → Int → Int → Int → Bool → Bool → Option (Int × Int × Int × Int × Int × Bool × Bool)
 | 0, _, _, _, _, _, _, _, _, _, _, _, _ => none
 | k + 1, x2, x114000, x114001, x115000, x115001, x117000, x117001, x117002, x117003, x117004, x117005, x117006 => (ratio_Is.f k x115000 x115001).bind fun t118 => (if t118 = true then (span_Make.j1 k x2 x114000 x114001 x115000 x115001 x117000 x117001 x115000 x115001 x117004 x117005 x117006) else (span_Make.j1 k x2 x114000 x114001 x115000 x115001 x117000 x117001 x117002 x117003 x117004 x117005 x117006))
def span_Make.j1 : Nat → Int → Int → Int → Int → Int → Int → Int → Int → Int → Int → Bool → Bool → Option (Int × Int × Int × Int × Int × Bool × Bool)
 | 0, _, _, _, _, _, _, _, _, _, _, _, _ => none
 | k + 1, x2, x114000, x114001, x115000, x115001, x117000, x117001, x117002, x117003, x117004, x117005, x117006 => if x2 < 0 then (span_Make.j2 k true x114000 x114001 x115000 x115001 x117000 x117001 x117002 x117003 x117004 x117005 x117006) else (span_Make.j2 k (decide (x2 > 1073741824)) x114000 x114001 x115000 x115001 x117000 x117001 x117002 x117003 x117004 x117005 x117006)
def span_Make.j2 : Nat → Bool → Int → Int → Int → Int → Int → Int → Int → Int → Int → Bool → Bool → Option (Int × Int × Int × Int × Int × Bool × Bool)
 | 0, _, _, _, _, _, _, _, _, _, _, _, _ => none
 | k + 1, x23, x114000, x114001, x115000, x115001, x117000, x117001, x117002, x117003, x117004, x117005, x117006 => if x23 = true then (span_Make.j3 k x114000 x114001 x115000 x115001 x117000 x117001 x117002 x117003 0 x117005 x117006) else (span_Make.j3 k x114000 x114001 x115000 x115001 x117000 x117001 x117002 x117003 x117004 x117005 x117006)
def span_Make.j3 : Nat → Int → Int → Int → Int → Int → Int → Int → Int → Int → Bool → Bool → Option (Int × Int × Int × Int × Int × Bool × Bool)
 | 0, _, _, _, _, _, _, _, _, _, _, _ => none
 | k + 1, x114000, x114001, x115000, x115001, x117000, x117001, x117002, x117003, x117004, x117005, x117006 => (ratio_Is.f k x114000 x114001).bind fun t119 => (if t119 = true then ((ratio_Is.f k x115000 x115001).bind fun t120 => (if t120 = true then ((ratio_Cmp.f k x114000 x114001 x115000 x115001).bind fun t121 => (if t121 > 0 then ((span_empty.f false).bind fun bt122 => (some (bt122.1, bt122.2.1, bt122.2.2.1, bt122.2.2.2.1, bt122.2.2.2.2.1, bt122.2.2.2.2.2.1, bt122.2.2.2.2.2.2))) else (some (x117000, x117001, x117002, x117003, x117004, x117005, x117006)))) else (some (x117000, x117001, x117002, x117003, x117004, x117005, x117006)))) else (some (x117000, x117001, x117002, x117003, x117004, x117005, x117006)))
end
def span_Make.f (k : Nat) (a0_0 : Int) (a0_1 : Int) (a1_0 : Int) (a1_1 : Int) (a2 : Int) : Option (Int × Int × Int × Int × Int × Bool × Bool) := (ratio_Is.f k a0_0 a0_1).bind fun t117 => (if t117 = true then (span_Make.j0 k a2 a0_0 a0_1 a1_0 a1_1 a0_0 a0_1 0 0 a2 false false) else (span_Make.j0 k a2 a0_0 a0_1 a1_0 a1_1 0 0 0 0 a2 false false))
theorem span_Make.mono_l : ∀ k, (∀ y0 y1 y2 y3 y4 y5 y6 y7 y8 y9 y10 y11, LeO (span_Make.j0 k y0 y1 y2 y3 y4 y5 y6 y7 y8 y9 y10 y11) (span_Make.j0 (k + 1) y0 y1 y2 y3 y4 y5 y6 y7 y8 y9 y10 y11)) ∧ (∀ y0 y1 y2 y3 y4 y5 y6 y7 y8 y9 y10 y11, LeO (span_Make.j1 k y0 y1 y2 y3 y4 y5 y6 y7 y8 y9 y10 y11) (span_Make.j1 (k + 1) y0 y1 y2 y3 y4 y5 y6 y7 y8 y9 y10 y11)) ∧ (∀ y0 y1 y2 y3 y4 y5 y6 y7 y8 y9 y10 y11, LeO (span_Make.j2 k y0 y1 y2 y3 y4 y5 y6 y7 y8 y9 y10 y11) (span_Make.j2 (k + 1) y0 y1 y2 y3 y4 y5 y6 y7 y8 y9 y10 y11)) ∧ (∀ y0 y1 y2 y3 y4 y5 y6 y7 y8 y9 y10, LeO (span_Make.j3 k y0 y1 y2 y3 y4 y5 y6 y7 y8 y9 y10) (span_Make.j3 (k + 1) y0 y1 y2 y3 y4 y5 y6 y7 y8 y9 y10))
 | 0 => ⟨fun _ _ _ _ _ _ _ _ _ _ _ _ r h => by simp [span_Make.j0] at h, fun _ _ _ _ _ _ _ _ _ _ _ _ r h => by simp [span_Make.j1] at h, fun _ _ _ _ _ _ _ _ _ _ _ _ r h => by simp [span_Make.j2] at h, fun _ _ _ _ _ _ _ _ _ _ _ r h => by simp [span_Make.j3] at h⟩
 | k + 1 => by
  obtain ⟨ih0, ih1, ih2, ih3⟩ := span_Make.mono_l k
  refine ⟨?_, ?_, ?_, ?_⟩
  ·
   intro y0 y1 y2 y3 y4 y5 y6 y7 y8 y9 y10 y11
   unfold span_Make.j0
   repeat' first
   | (with_reducible exact ih0 _ _ _ _ _ _ _ _ _ _ _ _)
   | (with_reducible exact ih1 _ _ _ _ _ _ _ _ _ _ _ _)
   | (with_reducible exact ih2 _ _ _ _ _ _ _ _ _ _ _ _)
   | (with_reducible exact ih3 _ _ _ _ _ _ _ _ _ _ _)
   | (with_reducible exact ratio_Cmp.mono _ _ _ _ _)
   | (with_reducible exact ratio_Is.mono _ _ _)
   | (with_reducible exact LeO.refl _)
   | (with_reducible exact LeO.none _)
   | (with_reducible refine LeO.ite ?_ ?_)
   | (with_reducible refine LeO.bind ?_ (fun _ => ?_))
   | exact ih0 _ _ _ _ _ _ _ _ _ _ _ _
   | exact ih1 _ _ _ _ _ _ _ _ _ _ _ _
   | exact ih2 _ _ _ _ _ _ _ _ _ _ _ _
   | exact ih3 _ _ _ _ _ _ _ _ _ _ _
   | exact ratio_Cmp.mono _ _ _ _ _
   | exact ratio_Is.mono _ _ _
   | exact LeO.none _
   | refine LeO.ite ?_ ?_
   | refine LeO.bind ?_ (fun _ => ?_)
  ·
   intro y0 y1 y2 y3 y4 y5 y6 y7 y8 y9 y10 y11
   unfold span_Make.j1
   repeat' first
   | (with_reducible exact ih0 _ _ _ _ _ _ _ _ _ _ _ _)
   | (with_reducible exact ih1 _ _ _ _ _ _ _ _ _ _ _ _)
   | (with_reducible exact ih2 _ _ _ _ _ _ _ _ _ _ _ _)
   | (with_reducible exact ih3 _ _ _ _ _ _ _ _ _ _ _)
   | (with_reducible exact ratio_Cmp.mono _ _ _ _ _)
   | (with_reducible exact ratio_Is.mono _ _ _)
   | (with_reducible exact LeO.refl _)
   | (with_reducible exact LeO.none _)
   | (with_reducible refine LeO.ite ?_ ?_)
   | (with_reducible refine LeO.bind ?_ (fun _ => ?_))
   | exact ih0 _ _ _ _ _ _ _ _ _ _ _ _
   | exact ih1 _ _ _ _ _ _ _ _ _ _ _ _
   | exact ih2 _ _ _ _ _ _ _ _ _ _ _ _
   | exact ih3 _ _ _ _ _ _ _ _ _ _ _
   | exact ratio_Cmp.mono _ _ _ _ _
   | exact ratio_Is.mono _ _ _
   | exact LeO.none _
   | refine LeO.ite ?_ ?_
   | refine LeO.bind ?_ (fun _ => ?_)
  ·
   intro y0 y1 y2 y3 y4 y5 y6 y7 y8 y9 y10 y11
   unfold span_Make.j2
   repeat' first
   | (with_reducible exact ih0 _ _ _ _ _ _ _ _ _ _ _ _)
   | (with_reducible exact ih1 _ _ _ _ _ _ _ _ _ _ _ _)
   | (with_reducible exact ih2 _ _ _ _ _ _ _ _ _ _ _ _)
   | (with_reducible exact ih3 _ _ _ _ _ _ _ _ _ _ _)
   | (with_reducible exact ratio_Cmp.mono _ _ _ _ _)
   | (with_reducible exact ratio_Is.mono _ _ _)
   | (with_reducible exact LeO.refl _)
   | (with_reducible exact LeO.none _)
   | (with_reducible refine LeO.ite ?_ ?_)
   | (with_reducible refine LeO.bind ?_ (fun _ => ?_))
   | exact ih0 _ _ _ _ _ _ _ _ _ _ _ _
   | exact ih1 _ _ _ _ _ _ _ _ _ _ _ _
   | exact ih2 _ _ _ _ _ _ _ _ _ _ _ _
   | exact ih3 _ _ _ _ _ _ _ _ _ _ _
   | exact ratio_Cmp.mono _ _ _ _ _
   | exact ratio_Is.mono _ _ _
   | exact LeO.none _
   | refine LeO.ite ?_ ?_
   | refine LeO.bind ?_ (fun _ => ?_)
  ·
   intro y0 y1 y2 y3 y4 y5 y6 y7 y8 y9 y10
   unfold span_Make.j3
   repeat' first
   | (with_reducible exact ih0 _ _ _ _ _ _ _ _ _ _ _ _)
   | (with_reducible exact ih1 _ _ _ _ _ _ _ _ _ _ _ _)
   | (with_reducible exact ih2 _ _ _ _ _ _ _ _ _ _ _ _)
   | (with_reducible exact ih3 _ _ _ _ _ _ _ _ _ _ _)
   | (with_reducible exact ratio_Cmp.mono _ _ _ _ _)
   | (with_reducible exact ratio_Is.mono _ _ _)
   | (with_reducible exact LeO.refl _)
   | (with_reducible exact LeO.none _)
   | (with_reducible refine LeO.ite ?_ ?_)
   | (with_reducible refine LeO.bind ?_ (fun _ => ?_))
   | exact ih0 _ _ _ _ _ _ _ _ _ _ _ _
   | exact ih1 _ _ _ _ _ _ _ _ _ _ _ _
   | exact ih2 _ _ _ _ _ _ _ _ _ _ _ _
   | exact ih3 _ _ _ _ _ _ _ _ _ _ _
   | exact ratio_Cmp.mono _ _ _ _ _
   | exact ratio_Is.mono _ _ _
   | exact LeO.none _
   | refine LeO.ite ?_ ?_
   | refine LeO.bind ?_ (fun _ => ?_)
theorem span_Make.mono : ∀ a0 a1 a2 a3 a4 k, LeO (span_Make.f k a0 a1 a2 a3 a4) (span_Make.f (k + 1) a0 a1 a2 a3 a4) := by
 intro a0 a1 a2 a3 a4 k
 obtain ⟨ih0, ih1, ih2, ih3⟩ := span_Make.mono_l k
 unfold span_Make.f
 repeat' first
   | (with_reducible exact ih0 _ _ _ _ _ _ _ _ _ _ _ _)
   | (with_reducible exact ih1 _ _ _ _ _ _ _ _ _ _ _ _)
   | (with_reducible exact ih2 _ _ _ _ _ _ _ _ _ _ _ _)
   | (with_reducible exact ih3 _ _ _ _ _ _ _ _ _ _ _)
   | (with_reducible exact ratio_Cmp.mono _ _ _ _ _)
   | (with_reducible exact ratio_Is.mono _ _ _)
   | (with_reducible exact LeO.refl _)
   | (with_reducible exact LeO.none _)
   | (with_reducible refine LeO.ite ?_ ?_)
   | (with_reducible refine LeO.bind ?_ (fun _ => ?_))
   | exact ih0 _ _ _ _ _ _ _ _ _ _ _ _
   | exact ih1 _ _ _ _ _ _ _ _ _ _ _ _
   | exact ih2 _ _ _ _ _ _ _ _ _ _ _ _
   | exact ih3 _ _ _ _ _ _ _ _ _ _ _
   | exact ratio_Cmp.mono _ _ _ _ _
   | exact ratio_Is.mono _ _ _
   | exact LeO.none _
   | refine LeO.ite ?_ ?_
   | refine LeO.bind ?_ (fun _ => ?_)
set_option maxHeartbeats 8000000 in
set_option maxRecDepth 100000 in
theorem span_Make.calls (k : Nat) (a0_0 : Int) (a0_1 : Int) (a1_0 : Int) (a1_1 : Int) (a2 : Int) (r1 : Int) (r2 : Int) (r3 : Int) (r4 : Int) (r5 : Int) (r6 : Bool) (r7 : Bool) (w : World) (h : span_Make.f k a0_0 a0_1 a1_0 a1_1 a2 = some (r1, r2, r3, r4, r5, r6, r7)) :
  Calls Tryd.prog 5 #[.agg #[.int .i64 a0_0, .int .i64 a0_1], .agg #[.int .i64 a1_0, .int .i64 a1_1], .int .i64 a2] w fun e w' => e = .returned (.agg #[.int .i64 r1, .int .i64 r2, .int .i64 r3, .int .i64 r4, .int .i64 r5, .bool r6, .bool r7]) ∧ Below w.heap.size w w' := by
 have hu23 := Tryd.underlying23; have hu25 := Tryd.underlying25; have HB := Aside0.mk (Below.refl w.heap.size w); have H : ((ratio_Is.f k a0_0 a0_1).bind fun t117 => (if t117 = true then (span_Make.j0 k a2 a0_0 a0_1 a1_0 a1_1 a0_0 a0_1 0 0 a2 false false) else (span_Make.j0 k a2 a0_0 a0_1 a1_0 a1_1 0 0 0 0 a2 false false))) = some (r1, r2, r3, r4, r5, r6, r7) := h; clear h; replace H := Option.bind_eq_some_iff.mp H; obtain ⟨t117, A40, H⟩ := H; (try dsimp only at H); have A4 := Aside0.mk A40; clear A40; have HC5 := Aside0.mk H; clear H; go_enter Tryd.func5, Tryd.ntmps5; go_upto_if 11 with (first | ((with_reducible refine gate_dst (N := 3) rfl ?_); refine box_event ?hg (N := 3) ?hd (cs := #[.int .i64 a0_0, .int .i64 a0_1]) (t := 23) ?hr ?_; (case hd => rfl); (case hg => rfl); (case hr => first | (go_simp; done) | (go_simp; rfl)); intro gb113 hg w6 hbox hb; have BK113 := Aside0.mk (hbox); have GW113 := hz_ hg HB; have GE113 := hz_ hg HB; replace HB := hs HB hb; clear hb hbox hg) | ((with_reducible refine gate_dst (N := 4) rfl ?_); refine box_event ?hg (N := 4) ?hd (cs := #[.int .i64 a1_0, .int .i64 a1_1]) (t := 23) ?hr ?_; (case hd => rfl); (case hg => rfl); (case hr => first | (go_simp; done) | (go_simp; rfl)); intro gb114 hg w7 hbox hb; have BK114 := Aside0.mk (hbox); have GW114 := Aside0.mk ((by rw [hg]; exact (below_size (by repeat first | (with_reducible exact HB.out) | refine bl1 ?_ | (with_reducible refine bset ?_ ‹_›) | exact HB.out)) : w.heap.size ≤ gb114)); have GE114 := Aside0.mk ((by rw [hg]; exact (below_size (by repeat first | (with_reducible exact HB.out) | refine bl1 ?_ | (with_reducible refine bset ?_ ‹_›) | exact HB.out)) : w.heap.size ≤ gb114)); have NB113_114 := nlk hg BK113; have NB114_113 := ngk hg BK113; replace BK113 := kb BK113 hb; replace HB := Aside0.mk (below_step (by repeat first | (with_reducible exact HB.out) | refine bl1 ?_ | (with_reducible refine bset ?_ ‹_›) | exact HB.out) hb); clear hb hbox hg) | ((with_reducible refine gate_dst (N := 6) rfl ?_); refine box_event ?hg (N := 6) ?hd (cs := #[.int .i64 0, .int .i64 0, .int .i64 0, .int .i64 0, .int .i64 0, .bool false, .bool false]) (t := 25) ?hr ?_; (case hd => rfl); (case hg => rfl); (case hr => first | (go_simp; done) | (go_simp; rfl)); intro gb115 hg w8 hbox hb; have BK115 := Aside0.mk (hbox); have GW115 := Aside0.mk ((by rw [hg]; exact (below_size (by repeat first | (with_reducible exact HB.out) | refine bl1 ?_ | (with_reducible refine bset ?_ ‹_›) | exact HB.out)) : w.heap.size ≤ gb115)); have GE115 := Aside0.mk ((by rw [hg]; exact (below_size (by repeat first | (with_reducible exact HB.out) | refine bl1 ?_ | (with_reducible refine bset ?_ ‹_›) | exact HB.out)) : w.heap.size ≤ gb115)); have NB113_115 := nlk hg BK113; have NB115_113 := ngk hg BK113; have NB114_115 := nlk hg BK114; have NB115_114 := ngk hg BK114; replace BK113 := kb BK113 hb; replace BK114 := kb BK114 hb; replace HB := Aside0.mk (below_step (by repeat first | (with_reducible exact HB.out) | refine bl1 ?_ | (with_reducible refine bset ?_ ‹_›) | exact HB.out) hb); clear hb hbox hg) | ((with_reducible refine gate_dst (N := 7) rfl ?_); refine box_event ?hg (N := 7) ?hd (cs := #[.int .i64 0, .int .i64 0, .int .i64 0, .int .i64 0, .int .i64 0, .bool false, .bool false]) (t := 25) ?hr ?_; (case hd => rfl); (case hg => rfl); (case hr => first | (go_simp; done) | (go_simp; rfl)); intro gb116 hg w9 hbox hb; have BK116 := Aside0.mk (hbox); have GW116 := Aside0.mk ((by rw [hg]; exact (below_size (by repeat first | (with_reducible exact HB.out) | refine bl1 ?_ | (with_reducible refine bset ?_ ‹_›) | exact HB.out)) : w.heap.size ≤ gb116)); have GE116 := Aside0.mk ((by rw [hg]; exact (below_size (by repeat first | (with_reducible exact HB.out) | refine bl1 ?_ | (with_reducible refine bset ?_ ‹_›) | exact HB.out)) : w.heap.size ≤ gb116)); have NB113_116 := nlk hg BK113; have NB116_113 := ngk hg BK113; have NB114_116 := nlk hg BK114; have NB116_114 := ngk hg BK114; have NB115_116 := nlk hg BK115; have NB116_115 := ngk hg BK115; replace BK113 := kb BK113 hb; replace BK114 := kb BK114 hb; replace BK115 := kb BK115 hb; replace HB := Aside0.mk (below_step (by repeat first | (with_reducible exact HB.out) | refine bl1 ?_ | (with_reducible refine bset ?_ ‹_›) | exact HB.out) hb); clear hb hbox hg; have hnb10 := NB116_113.out; have hnc10 := NB113_116.out; have hnb11 := NB116_114.out; have hnc11 := NB114_116.out; have hnb12 := NB116_115.out; have hnc12 := NB115_116.out; obtain ⟨hcz13_0, hcz13_1, hcz13_2, hcz13_3, hcz13_4, hcz13_5, hcz13_6⟩ := bc7 BK116.out; obtain ⟨hfz13_0, hfz13_1, hfz13_2, hfz13_3, hfz13_4, hfz13_5, hfz13_6⟩ := bf7 BK116.out; have hnb14 := NB113_114.out; have hnc14 := NB114_113.out; have hnb15 := NB113_115.out; have hnc15 := NB115_113.out; obtain ⟨hcz16_0, hcz16_1⟩ := bc2 BK113.out; obtain ⟨hfz16_0, hfz16_1⟩ := bf2 BK113.out) | ((with_reducible refine gate_callee (f := 15) rfl ?_); refine goesL_ (some 11) rfl rfl Tryd.func15 (by kernel_rfl) rfl #[.agg #[.int .i64 a0_0, .int .i64 a0_1]] rfl (by (try simp only [mp]); first | done | rfl | (simp only [ld]; rfl)) ?_; (with_reducible refine (ratio_Is.calls k a0_0 a0_1 t117 _ A4.out).mono ?_); rintro e w17 ⟨rfl, hb⟩; refine ⟨_, rfl, ?_⟩; replace BK113 := Aside0.mk (blk_below (g := gb113) (o := .cells #[.int .i64 a0_0, .int .i64 a0_1] 23 (0, 0)) (by refine bk ?_; refine blk_far ?_ NB113_116.out _; refine bk ?_; refine blk_far ?_ NB113_116.out _; refine bk ?_; refine blk_far ?_ NB113_116.out _; refine bk ?_; refine blk_far ?_ NB113_116.out _; refine bk ?_; refine blk_far ?_ NB113_116.out _; refine bk ?_; refine blk_far ?_ NB113_116.out _; refine bk ?_; refine blk_far ?_ NB113_116.out _; refine bk ?_; exact BK113.out) hb); replace BK114 := Aside0.mk (blk_below (g := gb114) (o := .cells #[.int .i64 a1_0, .int .i64 a1_1] 23 (0, 0)) (by refine bk ?_; refine blk_far ?_ NB114_116.out _; refine bk ?_; refine blk_far ?_ NB114_116.out _; refine bk ?_; refine blk_far ?_ NB114_116.out _; refine bk ?_; refine blk_far ?_ NB114_116.out _; refine bk ?_; refine blk_far ?_ NB114_116.out _; refine bk ?_; refine blk_far ?_ NB114_116.out _; refine bk ?_; refine blk_far ?_ NB114_116.out _; refine bk ?_; exact BK114.out) hb); replace BK115 := Aside0.mk (blk_below (g := gb115) (o := .cells #[.int .i64 0, .int .i64 0, .int .i64 0, .int .i64 0, .int .i64 0, .bool false, .bool false] 25 (0, 0)) (by refine bk ?_; refine blk_far ?_ NB115_116.out _; refine bk ?_; refine blk_far ?_ NB115_116.out _; refine bk ?_; refine blk_far ?_ NB115_116.out _; refine bk ?_; refine blk_far ?_ NB115_116.out _; refine bk ?_; refine blk_far ?_ NB115_116.out _; refine bk ?_; refine blk_far ?_ NB115_116.out _; refine bk ?_; refine blk_far ?_ NB115_116.out _; refine bk ?_; exact BK115.out) hb); replace BK116 := Aside0.mk (blk_below (g := gb116) (o := .cells #[.int .i64 0, .int .i64 0, .int .i64 0, .int .i64 0, .int .i64 a2, .bool false, .bool false] 25 (0, 0)) (by exact rq BK116.out (by rfl)) hb); replace HB := Aside0.mk (below_step (by repeat first | (with_reducible exact HB.out) | refine bl1 ?_ | (with_reducible refine bset ?_ ‹_›) | exact HB.out) hb); (try clear hb); (try clear hb2); (try clear hk); (try clear hi))); (try simp only [Act.put, List.setIfInBounds_toArray, List.set_cons_zero, List.set_cons_succ])
 go_cut [] (fun wc => ∃ (kq : Nat) (x117000_4 : Int) (x117001_4 : Int), Aside0 (span_Make.j0 kq a2 a0_0 a0_1 a1_0 a1_1 x117000_4 x117001_4 0 0 a2 false false = some (r1, r2, r3, r4, r5, r6, r7)) ∧ Aside0 (kq ≤ k) ∧ Aside0 (wc.heap[gb113]? = some (.cells #[.int .i64 a0_0, .int .i64 a0_1] 23 (0, 0))) ∧ Aside0 (wc.heap[gb114]? = some (.cells #[.int .i64 a1_0, .int .i64 a1_1] 23 (0, 0))) ∧ Aside0 (wc.heap[gb115]? = some (.cells #[.int .i64 0, .int .i64 0, .int .i64 0, .int .i64 0, .int .i64 0, .bool false, .bool false] 25 (0, 0))) ∧ Aside0 (wc.heap[gb116]? = some (.cells #[.int .i64 x117000_4, .int .i64 x117001_4, .int .i64 0, .int .i64 0, .int .i64 a2, .bool false, .bool false] 25 (0, 0))) ∧ Aside0 (Below w.heap.size w wc))
 case first =>
  have H := HC5.out; clear HC5; by_cases c18 : t117 = true
  ·
   subst c18; rw [if_pos rfl] at H; have H' := Aside0.mk H; clear H; have hnb19 := NB113_114.out; have hnc19 := NB114_113.out; have hnb20 := NB113_115.out; have hnc20 := NB115_113.out; have hnb21 := NB113_116.out; have hnc21 := NB116_113.out; obtain ⟨hcz22_0, hcz22_1⟩ := bc2 BK113.out; obtain ⟨hfz22_0, hfz22_1⟩ := bf2 BK113.out; have hnb23 := NB116_114.out; have hnc23 := NB114_116.out; have hnb24 := NB116_115.out; have hnc24 := NB115_116.out; obtain ⟨hcz25_0, hcz25_1, hcz25_2, hcz25_3, hcz25_4, hcz25_5, hcz25_6⟩ := bc7 BK116.out; obtain ⟨hfz25_0, hfz25_1, hfz25_2, hfz25_3, hfz25_4, hfz25_5, hfz25_6⟩ := bf7 BK116.out; go_wp2; go_meet
   case rel => exact ⟨_, (a0_0), (a0_1), H', ⟨by first | omega | exact Nat.le_refl _⟩, ⟨by refine bk ?_; refine blk_far ?_ NB113_116.out _; refine bk ?_; refine blk_far ?_ NB113_116.out _; refine bk ?_; exact BK113.out⟩, ⟨by refine bk ?_; refine blk_far ?_ NB114_116.out _; refine bk ?_; refine blk_far ?_ NB114_116.out _; refine bk ?_; exact BK114.out⟩, ⟨by refine bk ?_; refine blk_far ?_ NB115_116.out _; refine bk ?_; refine blk_far ?_ NB115_116.out _; refine bk ?_; exact BK115.out⟩, ⟨by exact rq BK116.out (by rfl)⟩, ⟨by repeat first | (with_reducible exact HB.out) | (with_reducible refine bset ?_ ‹_›) | refine bl1 ?_ | exact HB.out⟩⟩
  ·
   replace c18 := Bool.eq_false_iff.mpr c18; subst c18; rw [if_neg (show ¬ (false = true) by decide)] at H; have H' := Aside0.mk H; clear H; go_wp2; go_meet
   case rel => exact ⟨_, (0), (0), H', ⟨by first | omega | exact Nat.le_refl _⟩, ⟨by refine bk ?_; exact BK113.out⟩, ⟨by refine bk ?_; exact BK114.out⟩, ⟨by refine bk ?_; exact BK115.out⟩, ⟨by refine bk ?_; exact BK116.out⟩, ⟨by repeat first | (with_reducible exact HB.out) | (with_reducible refine bset ?_ ‹_›) | refine bl1 ?_ | exact HB.out⟩⟩
 case rest =>
  clear HC5; (try clear c1); (try clear c2); (try clear p2); (try clear c5); (try clear c10); (try clear c11); (try clear c12); (try clear c14); (try clear c15); (try clear c18); (try clear c19); (try clear c20); (try clear c21); (try clear c23); (try clear c24); (try clear hcz13_0); (try clear hcz13_1); (try clear hcz13_2); (try clear hcz13_3); (try clear hcz13_4); (try clear hcz13_5); (try clear hcz13_6); (try clear hcz16_0); (try clear hcz16_1); (try clear hcz22_0); (try clear hcz22_1); (try clear hcz25_0); (try clear hcz25_1); (try clear hcz25_2); (try clear hcz25_3); (try clear hcz25_4); (try clear hcz25_5); (try clear hcz25_6); (try clear hfz13_0); (try clear hfz13_1); (try clear hfz13_2); (try clear hfz13_3); (try clear hfz13_4); (try clear hfz13_5); (try clear hfz13_6); (try clear hfz16_0); (try clear hfz16_1); (try clear hfz22_0); (try clear hfz22_1); (try clear hfz25_0); (try clear hfz25_1); (try clear hfz25_2); (try clear hfz25_3); (try clear hfz25_4); (try clear hfz25_5); (try clear hfz25_6); obtain ⟨kq, x117000_4, x117001_4, HA, HJ4, BK113, BK114, BK115, BK116, HB⟩ := hcut; cases kq with
  | zero => exact absurd HA.out (by simp [span_Make.j0])
  | succ kj4 =>
   have H := HA.out; clear HA; simp only [span_Make.j0] at H; replace H := Option.bind_eq_some_iff.mp H; obtain ⟨t118, A260, H⟩ := H; (try dsimp only at H); have A26 := Aside0.mk A260; clear A260; have HC27 := Aside0.mk H; clear H; have hnb28 := NB114_113.out; have hnc28 := NB113_114.out; have hnb29 := NB114_115.out; have hnc29 := NB115_114.out; have hnb30 := NB114_116.out; have hnc30 := NB116_114.out; obtain ⟨hcz31_0, hcz31_1⟩ := bc2 BK114.out; obtain ⟨hfz31_0, hfz31_1⟩ := bf2 BK114.out; go_upto_if 15 with (first | ((with_reducible refine gate_callee (f := 15) rfl ?_); refine goesL_ (some 15) rfl rfl Tryd.func15 (by kernel_rfl) rfl #[.agg #[.int .i64 a1_0, .int .i64 a1_1]] rfl (by (try simp only [mp]); first | done | rfl | (simp only [ld]; rfl)) ?_; (with_reducible refine (ratio_Is.calls kj4 a1_0 a1_1 t118 _ A26.out).mono ?_); rintro e w32 ⟨rfl, hb⟩; refine ⟨_, rfl, ?_⟩; replace BK113 := kb BK113 hb; replace BK114 := kb BK114 hb; replace BK115 := kb BK115 hb; replace BK116 := kb BK116 hb; replace HB := Aside0.mk (below_step (by repeat first | (with_reducible exact HB.out) | refine bl1 ?_ | (with_reducible refine bset ?_ ‹_›) | exact HB.out) hb); (try clear hb); (try clear hb2); (try clear hk); (try clear hi))); (try simp only [Act.put, List.setIfInBounds_toArray, List.set_cons_zero, List.set_cons_succ])
   go_cut [] (fun wc => ∃ (kq : Nat) (x117002_26 : Int) (x117003_26 : Int), Aside0 (span_Make.j1 kq a2 a0_0 a0_1 a1_0 a1_1 x117000_4 x117001_4 x117002_26 x117003_26 a2 false false = some (r1, r2, r3, r4, r5, r6, r7)) ∧ Aside0 (kq ≤ kj4) ∧ Aside0 (wc.heap[gb113]? = some (.cells #[.int .i64 a0_0, .int .i64 a0_1] 23 (0, 0))) ∧ Aside0 (wc.heap[gb114]? = some (.cells #[.int .i64 a1_0, .int .i64 a1_1] 23 (0, 0))) ∧ Aside0 (wc.heap[gb115]? = some (.cells #[.int .i64 0, .int .i64 0, .int .i64 0, .int .i64 0, .int .i64 0, .bool false, .bool false] 25 (0, 0))) ∧ Aside0 (wc.heap[gb116]? = some (.cells #[.int .i64 x117000_4, .int .i64 x117001_4, .int .i64 x117002_26, .int .i64 x117003_26, .int .i64 a2, .bool false, .bool false] 25 (0, 0))) ∧ Aside0 (Below w.heap.size w wc))
   case first =>
    have H := HC27.out; clear HC27; by_cases c33 : t118 = true
    ·
     subst c33; rw [if_pos rfl] at H; have H' := Aside0.mk H; clear H; have hnb34 := NB114_113.out; have hnc34 := NB113_114.out; have hnb35 := NB114_115.out; have hnc35 := NB115_114.out; have hnb36 := NB114_116.out; have hnc36 := NB116_114.out; obtain ⟨hcz37_0, hcz37_1⟩ := bc2 BK114.out; obtain ⟨hfz37_0, hfz37_1⟩ := bf2 BK114.out; have hnb38 := NB116_113.out; have hnc38 := NB113_116.out; have hnb39 := NB116_115.out; have hnc39 := NB115_116.out; obtain ⟨hcz40_0, hcz40_1, hcz40_2, hcz40_3, hcz40_4, hcz40_5, hcz40_6⟩ := bc7 BK116.out; obtain ⟨hfz40_0, hfz40_1, hfz40_2, hfz40_3, hfz40_4, hfz40_5, hfz40_6⟩ := bf7 BK116.out; go_wp2; go_meet
     case rel => exact ⟨_, (a1_0), (a1_1), H', ⟨by have := HJ4.out; first | omega | exact Nat.le_refl _⟩, ⟨by refine bk ?_; refine blk_far ?_ NB113_116.out _; refine bk ?_; refine blk_far ?_ NB113_116.out _; refine bk ?_; exact BK113.out⟩, ⟨by refine bk ?_; refine blk_far ?_ NB114_116.out _; refine bk ?_; refine blk_far ?_ NB114_116.out _; refine bk ?_; exact BK114.out⟩, ⟨by refine bk ?_; refine blk_far ?_ NB115_116.out _; refine bk ?_; refine blk_far ?_ NB115_116.out _; refine bk ?_; exact BK115.out⟩, ⟨by exact rq BK116.out (by rfl)⟩, ⟨by repeat first | (with_reducible exact HB.out) | (with_reducible refine bset ?_ ‹_›) | refine bl1 ?_ | exact HB.out⟩⟩
    ·
     replace c33 := Bool.eq_false_iff.mpr c33; subst c33; rw [if_neg (show ¬ (false = true) by decide)] at H; have H' := Aside0.mk H; clear H; go_wp2; go_meet
     case rel => exact ⟨_, (0), (0), H', ⟨by have := HJ4.out; first | omega | exact Nat.le_refl _⟩, ⟨by refine bk ?_; exact BK113.out⟩, ⟨by refine bk ?_; exact BK114.out⟩, ⟨by refine bk ?_; exact BK115.out⟩, ⟨by refine bk ?_; exact BK116.out⟩, ⟨by repeat first | (with_reducible exact HB.out) | (with_reducible refine bset ?_ ‹_›) | refine bl1 ?_ | exact HB.out⟩⟩
   case rest =>
    clear HC27; (try clear c1); (try clear c2); (try clear p2); (try clear c3); (try clear c5); (try clear c10); (try clear c11); (try clear c12); (try clear c14); (try clear c15); (try clear c18); (try clear c19); (try clear c20); (try clear c21); (try clear c23); (try clear c24); (try clear c28); (try clear c29); (try clear c30); (try clear c33); (try clear c34); (try clear c35); (try clear c36); (try clear c38); (try clear c39); (try clear hcz13_0); (try clear hcz13_1); (try clear hcz13_2); (try clear hcz13_3); (try clear hcz13_4); (try clear hcz13_5); (try clear hcz13_6); (try clear hcz16_0); (try clear hcz16_1); (try clear hcz22_0); (try clear hcz22_1); (try clear hcz25_0); (try clear hcz25_1); (try clear hcz25_2); (try clear hcz25_3); (try clear hcz25_4); (try clear hcz25_5); (try clear hcz25_6); (try clear hcz31_0); (try clear hcz31_1); (try clear hcz37_0); (try clear hcz37_1); (try clear hcz40_0); (try clear hcz40_1); (try clear hcz40_2); (try clear hcz40_3); (try clear hcz40_4); (try clear hcz40_5); (try clear hcz40_6); (try clear hfz13_0); (try clear hfz13_1); (try clear hfz13_2); (try clear hfz13_3); (try clear hfz13_4); (try clear hfz13_5); (try clear hfz13_6); (try clear hfz16_0); (try clear hfz16_1); (try clear hfz22_0); (try clear hfz22_1); (try clear hfz25_0); (try clear hfz25_1); (try clear hfz25_2); (try clear hfz25_3); (try clear hfz25_4); (try clear hfz25_5); (try clear hfz25_6); (try clear hfz31_0); (try clear hfz31_1); (try clear hfz37_0); (try clear hfz37_1); (try clear hfz40_0); (try clear hfz40_1); (try clear hfz40_2); (try clear hfz40_3); (try clear hfz40_4); (try clear hfz40_5); (try clear hfz40_6); (try clear p2); obtain ⟨kq, x117002_26, x117003_26, HA, HJ26, BK113, BK114, BK115, BK116, HB⟩ := hcut; cases kq with
    | zero => exact absurd HA.out (by simp [span_Make.j1])
    | succ kj26 =>
     have H := HA.out; clear HA; simp only [span_Make.j1] at H; have HC41 := Aside0.mk H; clear H; go_upto_region 6 with (fail)
     go_cut [23] (fun v23 wc => ∃ (kq : Nat) (x23_40 : Bool), v23 = .bool x23_40 ∧ Aside0 (span_Make.j2 kq x23_40 a0_0 a0_1 a1_0 a1_1 x117000_4 x117001_4 x117002_26 x117003_26 a2 false false = some (r1, r2, r3, r4, r5, r6, r7)) ∧ Aside0 (kq ≤ kj26) ∧ Aside0 (wc.heap[gb113]? = some (.cells #[.int .i64 a0_0, .int .i64 a0_1] 23 (0, 0))) ∧ Aside0 (wc.heap[gb114]? = some (.cells #[.int .i64 a1_0, .int .i64 a1_1] 23 (0, 0))) ∧ Aside0 (wc.heap[gb115]? = some (.cells #[.int .i64 0, .int .i64 0, .int .i64 0, .int .i64 0, .int .i64 0, .bool false, .bool false] 25 (0, 0))) ∧ Aside0 (wc.heap[gb116]? = some (.cells #[.int .i64 x117000_4, .int .i64 x117001_4, .int .i64 x117002_26, .int .i64 x117003_26, .int .i64 a2, .bool false, .bool false] 25 (0, 0))) ∧ Aside0 (Below w.heap.size w wc))
     case first =>
      have H := HC41.out; clear HC41; by_cases c42 : a2 < 0
      ·
       rw [if_pos c42] at H; have c42b0 : decide (a2 < 0) = true := decide_eq_true c42; clear c42; (first | rw [c42b0] | (simp only [i64_w, i32_w]; rw [c42b0]) | skip); have H' := Aside0.mk H; clear H; go_wp2; go_meet
       case rel => exact ⟨_, (true), (by first | rfl | (simp; done) | (simp [*]; done)), H', ⟨by have := HJ4.out; have := HJ26.out; first | omega | exact Nat.le_refl _⟩, ⟨by refine bk ?_; exact BK113.out⟩, ⟨by refine bk ?_; exact BK114.out⟩, ⟨by refine bk ?_; exact BK115.out⟩, ⟨by refine bk ?_; exact BK116.out⟩, ⟨by repeat first | (with_reducible exact HB.out) | (with_reducible refine bset ?_ ‹_›) | refine bl1 ?_ | exact HB.out⟩⟩
      ·
       rw [if_neg c42] at H; have c42b0 : decide (a2 < 0) = false := decide_eq_false c42; clear c42; (first | rw [c42b0] | (simp only [i64_w, i32_w]; rw [c42b0]) | skip); have H' := Aside0.mk H; clear H; go_wp2; go_meet
       case rel => exact ⟨_, (decide (a2 > 1073741824)), (by first | rfl | (simp; done) | (simp [*]; done)), H', ⟨by have := HJ4.out; have := HJ26.out; first | omega | exact Nat.le_refl _⟩, ⟨by refine bk ?_; exact BK113.out⟩, ⟨by refine bk ?_; exact BK114.out⟩, ⟨by refine bk ?_; exact BK115.out⟩, ⟨by refine bk ?_; exact BK116.out⟩, ⟨by repeat first | (with_reducible exact HB.out) | (with_reducible refine bset ?_ ‹_›) | refine bl1 ?_ | exact HB.out⟩⟩
     case rest =>
      clear HC41; (try clear c1); (try clear c2); (try clear p2); (try clear c3); (try clear c4); (try clear c5); (try clear c10); (try clear c11); (try clear c12); (try clear c14); (try clear c15); (try clear c18); (try clear c19); (try clear c20); (try clear c21); (try clear c23); (try clear c24); (try clear c28); (try clear c29); (try clear c30); (try clear c33); (try clear c34); (try clear c35); (try clear c36); (try clear c38); (try clear c39); (try clear c42); (try clear c42b0); (try clear hcz13_0); (try clear hcz13_1); (try clear hcz13_2); (try clear hcz13_3); (try clear hcz13_4); (try clear hcz13_5); (try clear hcz13_6); (try clear hcz16_0); (try clear hcz16_1); (try clear hcz22_0); (try clear hcz22_1); (try clear hcz25_0); (try clear hcz25_1); (try clear hcz25_2); (try clear hcz25_3); (try clear hcz25_4); (try clear hcz25_5); (try clear hcz25_6); (try clear hcz31_0); (try clear hcz31_1); (try clear hcz37_0); (try clear hcz37_1); (try clear hcz40_0); (try clear hcz40_1); (try clear hcz40_2); (try clear hcz40_3); (try clear hcz40_4); (try clear hcz40_5); (try clear hcz40_6); (try clear hfz13_0); (try clear hfz13_1); (try clear hfz13_2); (try clear hfz13_3); (try clear hfz13_4); (try clear hfz13_5); (try clear hfz13_6); (try clear hfz16_0); (try clear hfz16_1); (try clear hfz22_0); (try clear hfz22_1); (try clear hfz25_0); (try clear hfz25_1); (try clear hfz25_2); (try clear hfz25_3); (try clear hfz25_4); (try clear hfz25_5); (try clear hfz25_6); (try clear hfz31_0); (try clear hfz31_1); (try clear hfz37_0); (try clear hfz37_1); (try clear hfz40_0); (try clear hfz40_1); (try clear hfz40_2); (try clear hfz40_3); (try clear hfz40_4); (try clear hfz40_5); (try clear hfz40_6); (try clear p2); obtain ⟨kq, x23_40, rfl, HA, HJ40, BK113, BK114, BK115, BK116, HB⟩ := hcut; cases kq with
      | zero => exact absurd HA.out (by simp [span_Make.j2])
      | succ kj40 =>
       have H := HA.out; clear HA; simp only [span_Make.j2] at H; have HC43 := Aside0.mk H; clear H; go_upto_if 23 with (fail)
       go_cut [] (fun wc => ∃ (kq : Nat) (x117004_42 : Int), Aside0 (span_Make.j3 kq a0_0 a0_1 a1_0 a1_1 x117000_4 x117001_4 x117002_26 x117003_26 x117004_42 false false = some (r1, r2, r3, r4, r5, r6, r7)) ∧ Aside0 (kq ≤ kj40) ∧ Aside0 (wc.heap[gb113]? = some (.cells #[.int .i64 a0_0, .int .i64 a0_1] 23 (0, 0))) ∧ Aside0 (wc.heap[gb114]? = some (.cells #[.int .i64 a1_0, .int .i64 a1_1] 23 (0, 0))) ∧ Aside0 (wc.heap[gb115]? = some (.cells #[.int .i64 0, .int .i64 0, .int .i64 0, .int .i64 0, .int .i64 0, .bool false, .bool false] 25 (0, 0))) ∧ Aside0 (wc.heap[gb116]? = some (.cells #[.int .i64 x117000_4, .int .i64 x117001_4, .int .i64 x117002_26, .int .i64 x117003_26, .int .i64 x117004_42, .bool false, .bool false] 25 (0, 0))) ∧ Aside0 (Below w.heap.size w wc))
       case first =>
        have H := HC43.out; clear HC43; by_cases c44 : x23_40 = true
        ·
         subst c44; rw [if_pos rfl] at H; have H' := Aside0.mk H; clear H; have hnb45 := NB116_113.out; have hnc45 := NB113_116.out; have hnb46 := NB116_114.out; have hnc46 := NB114_116.out; have hnb47 := NB116_115.out; have hnc47 := NB115_116.out; obtain ⟨hcz48_0, hcz48_1, hcz48_2, hcz48_3, hcz48_4, hcz48_5, hcz48_6⟩ := bc7 BK116.out; obtain ⟨hfz48_0, hfz48_1, hfz48_2, hfz48_3, hfz48_4, hfz48_5, hfz48_6⟩ := bf7 BK116.out; go_wp2; go_meet
         case rel => exact ⟨_, (0), H', ⟨by have := HJ4.out; have := HJ26.out; have := HJ40.out; first | omega | exact Nat.le_refl _⟩, ⟨by refine bk ?_; refine blk_far ?_ NB113_116.out _; refine bk ?_; exact BK113.out⟩, ⟨by refine bk ?_; refine blk_far ?_ NB114_116.out _; refine bk ?_; exact BK114.out⟩, ⟨by refine bk ?_; refine blk_far ?_ NB115_116.out _; refine bk ?_; exact BK115.out⟩, ⟨by exact rq BK116.out (by rfl)⟩, ⟨by repeat first | (with_reducible exact HB.out) | (with_reducible refine bset ?_ ‹_›) | refine bl1 ?_ | exact HB.out⟩⟩
        ·
         replace c44 := Bool.eq_false_iff.mpr c44; subst c44; rw [if_neg (show ¬ (false = true) by decide)] at H; have H' := Aside0.mk H; clear H; go_wp2; go_meet
         case rel => exact ⟨_, (a2), H', ⟨by have := HJ4.out; have := HJ26.out; have := HJ40.out; first | omega | exact Nat.le_refl _⟩, ⟨by refine bk ?_; exact BK113.out⟩, ⟨by refine bk ?_; exact BK114.out⟩, ⟨by refine bk ?_; exact BK115.out⟩, ⟨by refine bk ?_; exact BK116.out⟩, ⟨by repeat first | (with_reducible exact HB.out) | (with_reducible refine bset ?_ ‹_›) | refine bl1 ?_ | exact HB.out⟩⟩
       case rest =>
        clear HC43; (try clear c1); (try clear c2); (try clear p2); (try clear c3); (try clear c4); (try clear c5); (try clear c10); (try clear c11); (try clear c12); (try clear c14); (try clear c15); (try clear c18); (try clear c19); (try clear c20); (try clear c21); (try clear c23); (try clear c24); (try clear c28); (try clear c29); (try clear c30); (try clear c33); (try clear c34); (try clear c35); (try clear c36); (try clear c38); (try clear c39); (try clear c42); (try clear c42b0); (try clear c44); (try clear c45); (try clear c46); (try clear c47); (try clear hcz13_0); (try clear hcz13_1); (try clear hcz13_2); (try clear hcz13_3); (try clear hcz13_4); (try clear hcz13_5); (try clear hcz13_6); (try clear hcz16_0); (try clear hcz16_1); (try clear hcz22_0); (try clear hcz22_1); (try clear hcz25_0); (try clear hcz25_1); (try clear hcz25_2); (try clear hcz25_3); (try clear hcz25_4); (try clear hcz25_5); (try clear hcz25_6); (try clear hcz31_0); (try clear hcz31_1); (try clear hcz37_0); (try clear hcz37_1); (try clear hcz40_0); (try clear hcz40_1); (try clear hcz40_2); (try clear hcz40_3); (try clear hcz40_4); (try clear hcz40_5); (try clear hcz40_6); (try clear hcz48_0); (try clear hcz48_1); (try clear hcz48_2); (try clear hcz48_3); (try clear hcz48_4); (try clear hcz48_5); (try clear hcz48_6); (try clear hfz13_0); (try clear hfz13_1); (try clear hfz13_2); (try clear hfz13_3); (try clear hfz13_4); (try clear hfz13_5); (try clear hfz13_6); (try clear hfz16_0); (try clear hfz16_1); (try clear hfz22_0); (try clear hfz22_1); (try clear hfz25_0); (try clear hfz25_1); (try clear hfz25_2); (try clear hfz25_3); (try clear hfz25_4); (try clear hfz25_5); (try clear hfz25_6); (try clear hfz31_0); (try clear hfz31_1); (try clear hfz37_0); (try clear hfz37_1); (try clear hfz40_0); (try clear hfz40_1); (try clear hfz40_2); (try clear hfz40_3); (try clear hfz40_4); (try clear hfz40_5); (try clear hfz40_6); (try clear hfz48_0); (try clear hfz48_1); (try clear hfz48_2); (try clear hfz48_3); (try clear hfz48_4); (try clear hfz48_5); (try clear hfz48_6); (try clear p2); obtain ⟨kq, x117004_42, HA, HJ42, BK113, BK114, BK115, BK116, HB⟩ := hcut; cases kq with
        | zero => exact absurd HA.out (by simp [span_Make.j3])
        | succ kj42 =>
         have H := HA.out; clear HA; simp only [span_Make.j3] at H; replace H := Option.bind_eq_some_iff.mp H; obtain ⟨t119, A490, H⟩ := H; (try dsimp only at H); have A49 := Aside0.mk A490; clear A490; by_cases c50 : t119 = true
         ·
          subst c50; rw [if_pos rfl] at H; replace H := Option.bind_eq_some_iff.mp H; obtain ⟨t120, A510, H⟩ := H; (try dsimp only at H); have A51 := Aside0.mk A510; clear A510; by_cases c52 : t120 = true
          ·
           subst c52; rw [if_pos rfl] at H; replace H := Option.bind_eq_some_iff.mp H; obtain ⟨t121, A530, H⟩ := H; (try dsimp only at H); have A53 := Aside0.mk A530; clear A530; by_cases c54 : t121 > 0
           · rw [if_pos c54] at H; have c54b0 : decide (0 < t121) = true := decide_eq_true c54; clear c54; replace H := Option.bind_eq_some_iff.mp H; obtain ⟨⟨t122, t123, t124, t125, t126, t127, t128⟩, A550, H⟩ := H; (try dsimp only at H); have A55 := Aside0.mk A550; clear A550; simp only [Option.some.injEq, Prod.mk.injEq] at H; obtain ⟨rfl, rfl, rfl, rfl, rfl, rfl, rfl⟩ := H; have hnb56 := NB113_114.out; have hnc56 := NB114_113.out; have hnb57 := NB113_115.out; have hnc57 := NB115_113.out; have hnb58 := NB113_116.out; have hnc58 := NB116_113.out; obtain ⟨hcz59_0, hcz59_1⟩ := bc2 BK113.out; obtain ⟨hfz59_0, hfz59_1⟩ := bf2 BK113.out; go_wp2_with (first | ((with_reducible refine gate_callee (f := 15) rfl ?_); refine goesL_ (some 26) rfl rfl Tryd.func15 (by kernel_rfl) rfl #[.agg #[.int .i64 a0_0, .int .i64 a0_1]] rfl (by (try simp only [mp]); first | done | rfl | (simp only [ld]; rfl)) ?_; (with_reducible refine (ratio_Is.calls kj42 a0_0 a0_1 true _ A49.out).mono ?_); rintro e w60 ⟨rfl, hb⟩; refine ⟨_, rfl, ?_⟩; replace BK113 := kb BK113 hb; replace BK114 := kb BK114 hb; replace BK115 := kb BK115 hb; replace BK116 := kb BK116 hb; replace HB := Aside0.mk (below_step (by repeat first | (with_reducible exact HB.out) | refine bl1 ?_ | (with_reducible refine bset ?_ ‹_›) | exact HB.out) hb); (try clear hb); (try clear hb2); (try clear hk); (try clear hi); have hnb61 := NB114_115.out; have hnc61 := NB115_114.out; have hnb62 := NB114_116.out; have hnc62 := NB116_114.out; obtain ⟨hcz63_0, hcz63_1⟩ := bc2 BK114.out; obtain ⟨hfz63_0, hfz63_1⟩ := bf2 BK114.out) | (go_at_call 15; (with_reducible refine (ratio_Is.calls kj42 a1_0 a1_1 true _ A51.out).mono ?_); rintro e w64 ⟨rfl, hb⟩; replace BK113 := kb BK113 hb; replace BK114 := kb BK114 hb; replace BK115 := kb BK115 hb; replace BK116 := kb BK116 hb; replace HB := Aside0.mk (below_step (by repeat first | (with_reducible exact HB.out) | refine bl1 ?_ | (with_reducible refine bset ?_ ‹_›) | exact HB.out) hb); (try clear hb); (try clear hb2); (try clear hk); (try clear hi); obtain ⟨hcz65_0, hcz65_1⟩ := bc2 BK113.out; obtain ⟨hfz65_0, hfz65_1⟩ := bf2 BK113.out; obtain ⟨hcz66_0, hcz66_1⟩ := bc2 BK114.out; obtain ⟨hfz66_0, hfz66_1⟩ := bf2 BK114.out) | (go_at_call 16; (with_reducible refine (ratio_Cmp.calls kj42 a0_0 a0_1 a1_0 a1_1 t121 _ A53.out).mono ?_); rintro e w67 ⟨rfl, hb⟩; replace BK113 := kb BK113 hb; replace BK114 := kb BK114 hb; replace BK115 := kb BK115 hb; replace BK116 := kb BK116 hb; replace HB := Aside0.mk (below_step (by repeat first | (with_reducible exact HB.out) | refine bl1 ?_ | (with_reducible refine bset ?_ ‹_›) | exact HB.out) hb); (try clear hb); (try clear hb2); (try clear hk); (try clear hi)) | ((with_reducible refine gate_callee (f := 17) rfl ?_); refine goesL_ (some 37) rfl rfl Tryd.func17 (by kernel_rfl) rfl #[.bool false] rfl (by (try simp only [mp]); first | done | rfl | (simp only [ld]; rfl)) ?_; (with_reducible refine (span_empty.calls false t122 t123 t124 t125 t126 t127 t128 _ A55.out).mono ?_); rintro e w68 ⟨rfl, hb⟩; refine ⟨_, rfl, ?_⟩; replace BK113 := kb BK113 hb; replace BK114 := kb BK114 hb; replace BK115 := kb BK115 hb; replace BK116 := kb BK116 hb; replace HB := Aside0.mk (below_step (by repeat first | (with_reducible exact HB.out) | refine bl1 ?_ | (with_reducible refine bset ?_ ‹_›) | exact HB.out) hb); (try clear hb); (try clear hb2); (try clear hk); (try clear hi); have hnb69 := NB115_116.out; have hnc69 := NB116_115.out; obtain ⟨hcz70_0, hcz70_1, hcz70_2, hcz70_3, hcz70_4, hcz70_5, hcz70_6⟩ := bc7 BK115.out; obtain ⟨hfz70_0, hfz70_1, hfz70_2, hfz70_3, hfz70_4, hfz70_5, hfz70_6⟩ := bf7 BK115.out)); refine bodyPost_ret (results_cell_row rfl _ _ gb115 25 #[.int .i64 t122, .int .i64 t123, .int .i64 t124, .int .i64 t125, .int .i64 t126, .bool t127, .bool t128] (0, 0) _ rfl (by exact rq BK115.out (by rfl)) Tryd.underlying25 rfl (by kernel_rfl)) rfl ?_; exact ⟨by first | rfl | (simp [errW_none, errW_some] <;> rfl) | (simp [*, errW_none, errW_some] <;> rfl), by repeat first | (with_reducible exact HB.out) | (with_reducible refine bset ?_ ‹_›) | refine bl1 ?_ | exact HB.out⟩
           · rw [if_neg c54] at H; have c54b0 : decide (0 < t121) = false := decide_eq_false c54; clear c54; simp only [Option.some.injEq, Prod.mk.injEq] at H; obtain ⟨rfl, rfl, rfl, rfl, rfl, rfl, rfl⟩ := H; have hnb71 := NB113_114.out; have hnc71 := NB114_113.out; have hnb72 := NB113_115.out; have hnc72 := NB115_113.out; have hnb73 := NB113_116.out; have hnc73 := NB116_113.out; obtain ⟨hcz74_0, hcz74_1⟩ := bc2 BK113.out; obtain ⟨hfz74_0, hfz74_1⟩ := bf2 BK113.out; go_wp2_with (first | ((with_reducible refine gate_callee (f := 15) rfl ?_); refine goesL_ (some 26) rfl rfl Tryd.func15 (by kernel_rfl) rfl #[.agg #[.int .i64 a0_0, .int .i64 a0_1]] rfl (by (try simp only [mp]); first | done | rfl | (simp only [ld]; rfl)) ?_; (with_reducible refine (ratio_Is.calls kj42 a0_0 a0_1 true _ A49.out).mono ?_); rintro e w75 ⟨rfl, hb⟩; refine ⟨_, rfl, ?_⟩; replace BK113 := kb BK113 hb; replace BK114 := kb BK114 hb; replace BK115 := kb BK115 hb; replace BK116 := kb BK116 hb; replace HB := Aside0.mk (below_step (by repeat first | (with_reducible exact HB.out) | refine bl1 ?_ | (with_reducible refine bset ?_ ‹_›) | exact HB.out) hb); (try clear hb); (try clear hb2); (try clear hk); (try clear hi); have hnb76 := NB114_115.out; have hnc76 := NB115_114.out; have hnb77 := NB114_116.out; have hnc77 := NB116_114.out; obtain ⟨hcz78_0, hcz78_1⟩ := bc2 BK114.out; obtain ⟨hfz78_0, hfz78_1⟩ := bf2 BK114.out) | (go_at_call 15; (with_reducible refine (ratio_Is.calls kj42 a1_0 a1_1 true _ A51.out).mono ?_); rintro e w79 ⟨rfl, hb⟩; replace BK113 := kb BK113 hb; replace BK114 := kb BK114 hb; replace BK115 := kb BK115 hb; replace BK116 := kb BK116 hb; replace HB := Aside0.mk (below_step (by repeat first | (with_reducible exact HB.out) | refine bl1 ?_ | (with_reducible refine bset ?_ ‹_›) | exact HB.out) hb); (try clear hb); (try clear hb2); (try clear hk); (try clear hi); obtain ⟨hcz80_0, hcz80_1⟩ := bc2 BK113.out; obtain ⟨hfz80_0, hfz80_1⟩ := bf2 BK113.out; obtain ⟨hcz81_0, hcz81_1⟩ := bc2 BK114.out; obtain ⟨hfz81_0, hfz81_1⟩ := bf2 BK114.out) | (go_at_call 16; (with_reducible refine (ratio_Cmp.calls kj42 a0_0 a0_1 a1_0 a1_1 t121 _ A53.out).mono ?_); rintro e w82 ⟨rfl, hb⟩; replace BK113 := kb BK113 hb; replace BK114 := kb BK114 hb; replace BK115 := kb BK115 hb; replace BK116 := kb BK116 hb; replace HB := Aside0.mk (below_step (by repeat first | (with_reducible exact HB.out) | refine bl1 ?_ | (with_reducible refine bset ?_ ‹_›) | exact HB.out) hb); (try clear hb); (try clear hb2); (try clear hk); (try clear hi); have hnb83 := NB116_115.out; have hnc83 := NB115_116.out; obtain ⟨hcz84_0, hcz84_1, hcz84_2, hcz84_3, hcz84_4, hcz84_5, hcz84_6⟩ := bc7 BK116.out; obtain ⟨hfz84_0, hfz84_1, hfz84_2, hfz84_3, hfz84_4, hfz84_5, hfz84_6⟩ := bf7 BK116.out; obtain ⟨hcz85_0, hcz85_1, hcz85_2, hcz85_3, hcz85_4, hcz85_5, hcz85_6⟩ := bc7 BK115.out; obtain ⟨hfz85_0, hfz85_1, hfz85_2, hfz85_3, hfz85_4, hfz85_5, hfz85_6⟩ := bf7 BK115.out)); refine bodyPost_ret (results_cell_row rfl _ _ gb115 25 #[.int .i64 x117000_4, .int .i64 x117001_4, .int .i64 x117002_26, .int .i64 x117003_26, .int .i64 x117004_42, .bool false, .bool false] (0, 0) _ rfl (by exact rq BK115.out (by rfl)) Tryd.underlying25 rfl (by kernel_rfl)) rfl ?_; exact ⟨by first | rfl | (simp [errW_none, errW_some] <;> rfl) | (simp [*, errW_none, errW_some] <;> rfl), by repeat first | (with_reducible exact HB.out) | (with_reducible refine bset ?_ ‹_›) | refine bl1 ?_ | exact HB.out⟩
          · replace c52 := Bool.eq_false_iff.mpr c52; subst c52; rw [if_neg (show ¬ (false = true) by decide)] at H; simp only [Option.some.injEq, Prod.mk.injEq] at H; obtain ⟨rfl, rfl, rfl, rfl, rfl, rfl, rfl⟩ := H; have hnb86 := NB113_114.out; have hnc86 := NB114_113.out; have hnb87 := NB113_115.out; have hnc87 := NB115_113.out; have hnb88 := NB113_116.out; have hnc88 := NB116_113.out; obtain ⟨hcz89_0, hcz89_1⟩ := bc2 BK113.out; obtain ⟨hfz89_0, hfz89_1⟩ := bf2 BK113.out; go_wp2_with (first | ((with_reducible refine gate_callee (f := 15) rfl ?_); refine goesL_ (some 26) rfl rfl Tryd.func15 (by kernel_rfl) rfl #[.agg #[.int .i64 a0_0, .int .i64 a0_1]] rfl (by (try simp only [mp]); first | done | rfl | (simp only [ld]; rfl)) ?_; (with_reducible refine (ratio_Is.calls kj42 a0_0 a0_1 true _ A49.out).mono ?_); rintro e w90 ⟨rfl, hb⟩; refine ⟨_, rfl, ?_⟩; replace BK113 := kb BK113 hb; replace BK114 := kb BK114 hb; replace BK115 := kb BK115 hb; replace BK116 := kb BK116 hb; replace HB := Aside0.mk (below_step (by repeat first | (with_reducible exact HB.out) | refine bl1 ?_ | (with_reducible refine bset ?_ ‹_›) | exact HB.out) hb); (try clear hb); (try clear hb2); (try clear hk); (try clear hi); have hnb91 := NB114_115.out; have hnc91 := NB115_114.out; have hnb92 := NB114_116.out; have hnc92 := NB116_114.out; obtain ⟨hcz93_0, hcz93_1⟩ := bc2 BK114.out; obtain ⟨hfz93_0, hfz93_1⟩ := bf2 BK114.out) | (go_at_call 15; (with_reducible refine (ratio_Is.calls kj42 a1_0 a1_1 false _ A51.out).mono ?_); rintro e w94 ⟨rfl, hb⟩; replace BK113 := kb BK113 hb; replace BK114 := kb BK114 hb; replace BK115 := kb BK115 hb; replace BK116 := kb BK116 hb; replace HB := Aside0.mk (below_step (by repeat first | (with_reducible exact HB.out) | refine bl1 ?_ | (with_reducible refine bset ?_ ‹_›) | exact HB.out) hb); (try clear hb); (try clear hb2); (try clear hk); (try clear hi); have hnb95 := NB116_115.out; have hnc95 := NB115_116.out; obtain ⟨hcz96_0, hcz96_1, hcz96_2, hcz96_3, hcz96_4, hcz96_5, hcz96_6⟩ := bc7 BK116.out; obtain ⟨hfz96_0, hfz96_1, hfz96_2, hfz96_3, hfz96_4, hfz96_5, hfz96_6⟩ := bf7 BK116.out; obtain ⟨hcz97_0, hcz97_1, hcz97_2, hcz97_3, hcz97_4, hcz97_5, hcz97_6⟩ := bc7 BK115.out; obtain ⟨hfz97_0, hfz97_1, hfz97_2, hfz97_3, hfz97_4, hfz97_5, hfz97_6⟩ := bf7 BK115.out)); refine bodyPost_ret (results_cell_row rfl _ _ gb115 25 #[.int .i64 x117000_4, .int .i64 x117001_4, .int .i64 x117002_26, .int .i64 x117003_26, .int .i64 x117004_42, .bool false, .bool false] (0, 0) _ rfl (by exact rq BK115.out (by rfl)) Tryd.underlying25 rfl (by kernel_rfl)) rfl ?_; exact ⟨by first | rfl | (simp [errW_none, errW_some] <;> rfl) | (simp [*, errW_none, errW_some] <;> rfl), by repeat first | (with_reducible exact HB.out) | (with_reducible refine bset ?_ ‹_›) | refine bl1 ?_ | exact HB.out⟩
         · replace c50 := Bool.eq_false_iff.mpr c50; subst c50; rw [if_neg (show ¬ (false = true) by decide)] at H; simp only [Option.some.injEq, Prod.mk.injEq] at H; obtain ⟨rfl, rfl, rfl, rfl, rfl, rfl, rfl⟩ := H; have hnb98 := NB113_114.out; have hnc98 := NB114_113.out; have hnb99 := NB113_115.out; have hnc99 := NB115_113.out; have hnb100 := NB113_116.out; have hnc100 := NB116_113.out; obtain ⟨hcz101_0, hcz101_1⟩ := bc2 BK113.out; obtain ⟨hfz101_0, hfz101_1⟩ := bf2 BK113.out; go_wp2_with (first | ((with_reducible refine gate_callee (f := 15) rfl ?_); refine goesL_ (some 26) rfl rfl Tryd.func15 (by kernel_rfl) rfl #[.agg #[.int .i64 a0_0, .int .i64 a0_1]] rfl (by (try simp only [mp]); first | done | rfl | (simp only [ld]; rfl)) ?_; (with_reducible refine (ratio_Is.calls kj42 a0_0 a0_1 false _ A49.out).mono ?_); rintro e w102 ⟨rfl, hb⟩; refine ⟨_, rfl, ?_⟩; replace BK113 := kb BK113 hb; replace BK114 := kb BK114 hb; replace BK115 := kb BK115 hb; replace BK116 := kb BK116 hb; replace HB := Aside0.mk (below_step (by repeat first | (with_reducible exact HB.out) | refine bl1 ?_ | (with_reducible refine bset ?_ ‹_›) | exact HB.out) hb); (try clear hb); (try clear hb2); (try clear hk); (try clear hi); have hnb103 := NB116_114.out; have hnc103 := NB114_116.out; have hnb104 := NB116_115.out; have hnc104 := NB115_116.out; obtain ⟨hcz105_0, hcz105_1, hcz105_2, hcz105_3, hcz105_4, hcz105_5, hcz105_6⟩ := bc7 BK116.out; obtain ⟨hfz105_0, hfz105_1, hfz105_2, hfz105_3, hfz105_4, hfz105_5, hfz105_6⟩ := bf7 BK116.out; have hnb106 := NB115_114.out; have hnc106 := NB114_115.out; obtain ⟨hcz107_0, hcz107_1, hcz107_2, hcz107_3, hcz107_4, hcz107_5, hcz107_6⟩ := bc7 BK115.out; obtain ⟨hfz107_0, hfz107_1, hfz107_2, hfz107_3, hfz107_4, hfz107_5, hfz107_6⟩ := bf7 BK115.out)); refine bodyPost_ret (results_cell_row rfl _ _ gb115 25 #[.int .i64 x117000_4, .int .i64 x117001_4, .int .i64 x117002_26, .int .i64 x117003_26, .int .i64 x117004_42, .bool false, .bool false] (0, 0) _ rfl (by exact rq BK115.out (by rfl)) Tryd.underlying25 rfl (by kernel_rfl)) rfl ?_; exact ⟨by first | rfl | (simp [errW_none, errW_some] <;> rfl) | (simp [*, errW_none, errW_some] <;> rfl), by repeat first | (with_reducible exact HB.out) | (with_reducible refine bset ?_ ‹_›) | refine bl1 ?_ | exact HB.out⟩
def serinetteref03_Empty.f (a0 : Bool) : Option (Int × Int × Int × Int × Int × Bool × Bool) := some (0, 0, 0, 0, 0, a0, true)
set_option maxHeartbeats 8000000 in
set_option maxRecDepth 100000 in
theorem serinetteref03_Empty.calls (a0 : Bool) (r1 : Int) (r2 : Int) (r3 : Int) (r4 : Int) (r5 : Int) (r6 : Bool) (r7 : Bool) (w : World) (h : serinetteref03_Empty.f a0 = some (r1, r2, r3, r4, r5, r6, r7)) :
  Calls Tryd.prog 13 #[.bool a0] w fun e w' => e = .returned (.agg #[.int .i64 r1, .int .i64 r2, .int .i64 r3, .int .i64 r4, .int .i64 r5, .bool r6, .bool r7]) ∧ Below w.heap.size w w' := by
 have hu25 := Tryd.underlying25; have HB := Aside0.mk (Below.refl w.heap.size w); have H : (some (0, 0, 0, 0, 0, a0, true)) = some (r1, r2, r3, r4, r5, r6, r7) := h; clear h; simp only [Option.some.injEq, Prod.mk.injEq] at H; obtain ⟨rfl, rfl, rfl, rfl, rfl, rfl, rfl⟩ := H; go_enter Tryd.func13, Tryd.ntmps13; go_wp2_with (first | ((with_reducible refine gate_dst (N := 2) rfl ?_); refine box_event ?hg (N := 2) ?hd (cs := #[.int .i64 0, .int .i64 0, .int .i64 0, .int .i64 0, .int .i64 0, .bool false, .bool false]) (t := 25) ?hr ?_; (case hd => rfl); (case hg => rfl); (case hr => first | (go_simp; done) | (go_simp; rfl)); intro gb129 hg w2 hbox hb; have BK129 := Aside0.mk (hbox); have GW129 := hz_ hg HB; have GE129 := hz_ hg HB; replace HB := hs HB hb; clear hb hbox hg; obtain ⟨hcz3_0, hcz3_1, hcz3_2, hcz3_3, hcz3_4, hcz3_5, hcz3_6⟩ := bc7 BK129.out; obtain ⟨hfz3_0, hfz3_1, hfz3_2, hfz3_3, hfz3_4, hfz3_5, hfz3_6⟩ := bf7 BK129.out)); refine bodyPost_ret (results_cell_row rfl _ _ gb129 25 #[.int .i64 0, .int .i64 0, .int .i64 0, .int .i64 0, .int .i64 0, .bool a0, .bool true] (0, 0) _ rfl (by exact rq BK129.out (by rfl)) Tryd.underlying25 rfl (by kernel_rfl)) rfl ?_; exact ⟨by first | rfl | (simp [errW_none, errW_some] <;> rfl) | (simp [*, errW_none, errW_some] <;> rfl), by repeat first | (with_reducible exact HB.out) | (with_reducible refine bset ?_ ‹_›) | refine bl1 ?_ | exact HB.out⟩
mutual
def serinetteref01_Divisor.j0 : Nat → Int → Int → Option (Int)
 | 0, _, _ => none
 | k + 1, x0, x1 => if x1 < 0 then (serinetteref01_Divisor.j1 k x0 (wrap64 (-x1))) else (serinetteref01_Divisor.j1 k x0 x1)
def serinetteref01_Divisor.j1 : Nat → Int → Int → Option (Int)
 | 0, _, _ => none
 | k + 1, x0, x1 => serinetteref01_Divisor.l0 k x0 x1
def serinetteref01_Divisor.l0 : Nat → Int → Int → Option (Int)
 | 0, _, _ => none
 | k + 1, x0, x1 => if x1 = 0 then (some x0) else (serinetteref01_Divisor.l0 k x1 (Int.tmod x0 x1))
end
def serinetteref01_Divisor.f (k : Nat) (a0 : Int) (a1 : Int) : Option (Int) := if a0 < 0 then (serinetteref01_Divisor.j0 k (wrap64 (-a0)) a1) else (serinetteref01_Divisor.j0 k a0 a1)
theorem serinetteref01_Divisor.mono_l : ∀ k, (∀ y0 y1, LeO (serinetteref01_Divisor.j0 k y0 y1) (serinetteref01_Divisor.j0 (k + 1) y0 y1)) ∧ (∀ y0 y1, LeO (serinetteref01_Divisor.j1 k y0 y1) (serinetteref01_Divisor.j1 (k + 1) y0 y1)) ∧ (∀ y0 y1, LeO (serinetteref01_Divisor.l0 k y0 y1) (serinetteref01_Divisor.l0 (k + 1) y0 y1))
 | 0 => ⟨fun _ _ r h => by simp [serinetteref01_Divisor.j0] at h, fun _ _ r h => by simp [serinetteref01_Divisor.j1] at h, fun _ _ r h => by simp [serinetteref01_Divisor.l0] at h⟩
 | k + 1 => by
  obtain ⟨ih0, ih1, ih2⟩ := serinetteref01_Divisor.mono_l k
  refine ⟨?_, ?_, ?_⟩
  ·
   intro y0 y1
   unfold serinetteref01_Divisor.j0
   repeat' first
   | (with_reducible exact ih0 _ _)
   | (with_reducible exact ih1 _ _)
   | (with_reducible exact ih2 _ _)
   | (with_reducible exact LeO.refl _)
   | (with_reducible exact LeO.none _)
   | (with_reducible refine LeO.ite ?_ ?_)
   | (with_reducible refine LeO.bind ?_ (fun _ => ?_))
   | exact ih0 _ _
   | exact ih1 _ _
   | exact ih2 _ _
   | exact LeO.none _
   | refine LeO.ite ?_ ?_
   | refine LeO.bind ?_ (fun _ => ?_)
  ·
   intro y0 y1
   unfold serinetteref01_Divisor.j1
   repeat' first
   | (with_reducible exact ih0 _ _)
   | (with_reducible exact ih1 _ _)
   | (with_reducible exact ih2 _ _)
   | (with_reducible exact LeO.refl _)
   | (with_reducible exact LeO.none _)
   | (with_reducible refine LeO.ite ?_ ?_)
   | (with_reducible refine LeO.bind ?_ (fun _ => ?_))
   | exact ih0 _ _
   | exact ih1 _ _
   | exact ih2 _ _
   | exact LeO.none _
   | refine LeO.ite ?_ ?_
   | refine LeO.bind ?_ (fun _ => ?_)
  ·
   intro y0 y1
   unfold serinetteref01_Divisor.l0
   repeat' first
   | (with_reducible exact ih0 _ _)
   | (with_reducible exact ih1 _ _)
   | (with_reducible exact ih2 _ _)
   | (with_reducible exact LeO.refl _)
   | (with_reducible exact LeO.none _)
   | (with_reducible refine LeO.ite ?_ ?_)
   | (with_reducible refine LeO.bind ?_ (fun _ => ?_))
   | exact ih0 _ _
   | exact ih1 _ _
   | exact ih2 _ _
   | exact LeO.none _
   | refine LeO.ite ?_ ?_
   | refine LeO.bind ?_ (fun _ => ?_)
theorem serinetteref01_Divisor.mono : ∀ a0 a1 k, LeO (serinetteref01_Divisor.f k a0 a1) (serinetteref01_Divisor.f (k + 1) a0 a1) := by
 intro a0 a1 k
 obtain ⟨ih0, ih1, ih2⟩ := serinetteref01_Divisor.mono_l k
 unfold serinetteref01_Divisor.f
 repeat' first
   | (with_reducible exact ih0 _ _)
   | (with_reducible exact ih1 _ _)
   | (with_reducible exact ih2 _ _)
   | (with_reducible exact LeO.refl _)
   | (with_reducible exact LeO.none _)
   | (with_reducible refine LeO.ite ?_ ?_)
   | (with_reducible refine LeO.bind ?_ (fun _ => ?_))
   | exact ih0 _ _
   | exact ih1 _ _
   | exact ih2 _ _
   | exact LeO.none _
   | refine LeO.ite ?_ ?_
   | refine LeO.bind ?_ (fun _ => ?_)
set_option maxHeartbeats 8000000 in
set_option maxRecDepth 100000 in
theorem serinetteref01_Divisor.calls (k : Nat) (a0 : Int) (a1 : Int) (r : Int) (w : World) (h : serinetteref01_Divisor.f k a0 a1 = some r) :
  Calls Tryd.prog 34 #[.int .i64 a0, .int .i64 a1] w fun e w' => e = .returned (.int .i64 r) ∧ Drawn0 w w' := by
 have H : (if a0 < 0 then (serinetteref01_Divisor.j0 k (wrap64 (-a0)) a1) else (serinetteref01_Divisor.j0 k a0 a1)) = some r := h; clear h; have HC3 := Aside0.mk H; clear H; go_enter Tryd.func34, Tryd.ntmps34; go_upto_if 7 with (fail)
 go_cut [0] (fun v0 wc => ∃ (kq : Nat) (x0_2 : Int), v0 = .int .i64 x0_2 ∧ Aside0 (serinetteref01_Divisor.j0 kq x0_2 a1 = some r) ∧ Aside0 (kq ≤ k) ∧ Drawn0 w wc)
 case first =>
  have H := HC3.out; clear HC3; by_cases c4 : a0 < 0
  ·
   rw [if_pos c4] at H; have c4b0 : decide (a0 < 0) = true := decide_eq_true c4; clear c4; (first | rw [c4b0] | (simp only [i64_w, i32_w]; rw [c4b0]) | skip); have H' := Aside0.mk H; clear H; go_wp2; go_meet
   case rel => exact ⟨_, (wrap64 (-a0)), (by first | rfl | (simp; done) | (simp [*]; done)), H', ⟨by first | omega | exact Nat.le_refl _⟩, by repeat (first | exact Drawn0.refl _ | apply Drawn0.step)⟩
  ·
   rw [if_neg c4] at H; have c4b0 : decide (a0 < 0) = false := decide_eq_false c4; clear c4; (first | rw [c4b0] | (simp only [i64_w, i32_w]; rw [c4b0]) | skip); have H' := Aside0.mk H; clear H; go_wp2; go_meet
   case rel => exact ⟨_, (a0), (by first | rfl | (simp; done) | (simp [*]; done)), H', ⟨by first | omega | exact Nat.le_refl _⟩, by repeat (first | exact Drawn0.refl _ | apply Drawn0.step)⟩
 case rest =>
  clear HC3; (try clear p2); (try clear c3); (try clear c4); (try clear c4b0); obtain ⟨kq, x0_2, rfl, HA, HJ2, ⟨mc2, rfl⟩⟩ := hcut; cases kq with
  | zero => exact absurd HA.out (by simp [serinetteref01_Divisor.j0])
  | succ kj2 =>
   have H := HA.out; clear HA; simp only [serinetteref01_Divisor.j0] at H; have HC5 := Aside0.mk H; clear H; go_upto_if 11 with (fail)
   go_cut [1] (fun v1 wc => ∃ (kq : Nat) (x1_4 : Int), v1 = .int .i64 x1_4 ∧ Aside0 (serinetteref01_Divisor.j1 kq x0_2 x1_4 = some r) ∧ Aside0 (kq ≤ kj2) ∧ Drawn0 w wc)
   case first =>
    have H := HC5.out; clear HC5; by_cases c6 : a1 < 0
    ·
     rw [if_pos c6] at H; have c6b0 : decide (a1 < 0) = true := decide_eq_true c6; clear c6; (first | rw [c6b0] | (simp only [i64_w, i32_w]; rw [c6b0]) | skip); have H' := Aside0.mk H; clear H; go_wp2; go_meet
     case rel => exact ⟨_, (wrap64 (-a1)), (by first | rfl | (simp; done) | (simp [*]; done)), H', ⟨by have := HJ2.out; first | omega | exact Nat.le_refl _⟩, by repeat (first | exact Drawn0.refl _ | apply Drawn0.step)⟩
    ·
     rw [if_neg c6] at H; have c6b0 : decide (a1 < 0) = false := decide_eq_false c6; clear c6; (first | rw [c6b0] | (simp only [i64_w, i32_w]; rw [c6b0]) | skip); have H' := Aside0.mk H; clear H; go_wp2; go_meet
     case rel => exact ⟨_, (a1), (by first | rfl | (simp; done) | (simp [*]; done)), H', ⟨by have := HJ2.out; first | omega | exact Nat.le_refl _⟩, by repeat (first | exact Drawn0.refl _ | apply Drawn0.step)⟩
   case rest =>
    clear HC5; (try clear c2); (try clear p2); (try clear c3); (try clear c4); (try clear c4b0); (try clear c6); (try clear c6b0); (try clear p6); (try clear p2); obtain ⟨kq, x1_4, rfl, HA, HJ4, ⟨mc4, rfl⟩⟩ := hcut; cases kq with
    | zero => exact absurd HA.out (by simp [serinetteref01_Divisor.j1])
    | succ kj4 =>
     have H := HA.out; clear HA; simp only [serinetteref01_Divisor.j1] at H; have H' := Aside0.mk H; clear H; go_wp2
     go_loopg [0, 1] kj4 (fun kq v0 v1 w' => ∃ (x0_3 : Int) (x1_3 : Int), v0 = .int .i64 x0_3 ∧ v1 = .int .i64 x1_3 ∧ Aside0 (serinetteref01_Divisor.l0 kq x0_3 x1_3 = some r) ∧ Aside0 (kq ≤ kj4) ∧ Drawn0 w w')
     case atStart => exact ⟨(x0_2), (x1_4), (by first | rfl | (simp; done) | (simp [*]; done)), (by first | rfl | (simp; done) | (simp [*]; done)), H', ⟨Nat.le_refl _⟩, by repeat (first | exact Drawn0.refl _ | apply Drawn0.step)⟩
     case round =>
      clear H'; (try clear c2); (try clear p2); (try clear c3); (try clear c4); (try clear c4b0); (try clear c6); (try clear c6b0); (try clear p6); (try clear p2); (try clear p6); obtain ⟨x0_3, x1_3, rfl, rfl, HA, HK3, ⟨m3, rfl⟩⟩ := hrel; cases gk with
      | zero => exact absurd HA.out (by simp [serinetteref01_Divisor.l0])
      | succ k3 =>
       have H := HA.out; clear HA; simp only [serinetteref01_Divisor.l0] at H; by_cases c7 : x1_3 = 0
       · rw [if_pos c7] at H; have c7b0 : (x1_3 == 0) = true := beq_iff_eq.mpr c7; have c7b1 : (x1_3 != 0) = false := bne_eq_false_iff_eq.mpr c7; clear c7; obtain rfl := Option.some.inj H; go_wp2; go_ret; exact ⟨by first | rfl | (simp; done) | (simp [*]; done), by repeat (first | exact Drawn0.refl _ | apply Drawn0.step)⟩
       ·
        rw [if_neg c7] at H; have c7b0 : (x1_3 == 0) = false := beq_eq_false_iff_ne.mpr c7; have c7b1 : (x1_3 != 0) = true := bne_iff_ne.mpr c7; have H' := Aside0.mk H; clear H; go_wp2; go_roundg k3
        case measure => have := HJ2.out; have := HJ4.out; have := HK3.out; omega
        case rel => exact ⟨(x1_3), (Int.tmod x0_3 x1_3), (by first | rfl | (simp; done) | (simp [*]; done)), (by first | rfl | (simp; done) | (simp [*]; done)), H', ⟨by have := HJ2.out; have := HJ4.out; have := HK3.out; omega⟩, by repeat (first | exact Drawn0.refl _ | apply Drawn0.step)⟩
def serinetteref01_Is.f (k : Nat) (a0_0 : Int) (a0_1 : Int) : Option (Bool) := if a0_1 ≥ 1 then (if a0_1 ≤ 1073741824 then (if a0_0 ≥ (-1073741824) then (if a0_0 ≤ 1073741824 then ((serinetteref01_Divisor.f k a0_0 a0_1).bind fun t131 => (some (t131 == 1))) else (some false)) else (some false)) else (some false)) else (some false)
theorem serinetteref01_Is.mono : ∀ a0 a1 k, LeO (serinetteref01_Is.f k a0 a1) (serinetteref01_Is.f (k + 1) a0 a1) := by
 intro a0 a1 k
 unfold serinetteref01_Is.f
 repeat' first
   | (with_reducible exact serinetteref01_Divisor.mono _ _ _)
   | (with_reducible exact LeO.refl _)
   | (with_reducible exact LeO.none _)
   | (with_reducible refine LeO.ite ?_ ?_)
   | (with_reducible refine LeO.bind ?_ (fun _ => ?_))
   | exact serinetteref01_Divisor.mono _ _ _
   | exact LeO.none _
   | refine LeO.ite ?_ ?_
   | refine LeO.bind ?_ (fun _ => ?_)
set_option maxHeartbeats 8000000 in
set_option maxRecDepth 100000 in
theorem serinetteref01_Is.calls (k : Nat) (a0_0 : Int) (a0_1 : Int) (r : Bool) (w : World) (h : serinetteref01_Is.f k a0_0 a0_1 = some r) :
  Calls Tryd.prog 19 #[.agg #[.int .i64 a0_0, .int .i64 a0_1]] w fun e w' => e = .returned (.bool r) ∧ Below w.heap.size w w' := by
 have hu23 := Tryd.underlying23; have HB := Aside0.mk (Below.refl w.heap.size w); have H : (if a0_1 ≥ 1 then (if a0_1 ≤ 1073741824 then (if a0_0 ≥ (-1073741824) then (if a0_0 ≤ 1073741824 then ((serinetteref01_Divisor.f k a0_0 a0_1).bind fun t131 => (some (t131 == 1))) else (some false)) else (some false)) else (some false)) else (some false)) = some r := h; clear h; by_cases c2 : a0_1 ≥ 1
 ·
  rw [if_pos c2] at H; have c2b0 : decide (1 ≤ a0_1) = true := decide_eq_true c2; clear c2; by_cases c3 : a0_1 ≤ 1073741824
  ·
   rw [if_pos c3] at H; have c3b0 : decide (a0_1 ≤ 1073741824) = true := decide_eq_true c3; clear c3; by_cases c4 : a0_0 ≥ (-1073741824)
   ·
    rw [if_pos c4] at H; have c4b0 : decide ((-1073741824) ≤ a0_0) = true := decide_eq_true c4; clear c4; by_cases c5 : a0_0 ≤ 1073741824
    · rw [if_pos c5] at H; have c5b0 : decide (a0_0 ≤ 1073741824) = true := decide_eq_true c5; clear c5; replace H := Option.bind_eq_some_iff.mp H; obtain ⟨t131, A60, H⟩ := H; (try dsimp only at H); have A6 := Aside0.mk A60; clear A60; obtain rfl := Option.some.inj H; go_enter Tryd.func19, Tryd.ntmps19; go_wp2_with (first | ((with_reducible refine gate_dst (N := 1) rfl ?_); refine box_event ?hg (N := 1) ?hd (cs := #[.int .i64 a0_0, .int .i64 a0_1]) (t := 23) ?hr ?_; (case hd => rfl); (case hg => rfl); (case hr => first | (go_simp; done) | (go_simp; rfl)); intro gb130 hg w7 hbox hb; have BK130 := Aside0.mk (hbox); have GW130 := hz_ hg HB; have GE130 := hz_ hg HB; replace HB := hs HB hb; clear hb hbox hg; obtain ⟨hcz8_0, hcz8_1⟩ := bc2 BK130.out; obtain ⟨hfz8_0, hfz8_1⟩ := bf2 BK130.out) | (go_at_call 34; (with_reducible refine (serinetteref01_Divisor.calls k a0_0 a0_1 t131 _ A6.out).mono ?_); rintro e w' ⟨rfl, ⟨nd, rfl⟩⟩)); go_ret; exact ⟨by first | rfl | (simp [errW_none, errW_some] <;> rfl) | (simp [*, errW_none, errW_some] <;> rfl), by repeat first | (with_reducible exact HB.out) | (with_reducible refine bset ?_ ‹_›) | refine bl1 ?_ | exact HB.out⟩
    · rw [if_neg c5] at H; have c5b0 : decide (a0_0 ≤ 1073741824) = false := decide_eq_false c5; clear c5; obtain rfl := Option.some.inj H; go_enter Tryd.func19, Tryd.ntmps19; go_wp2_with (first | ((with_reducible refine gate_dst (N := 1) rfl ?_); refine box_event ?hg (N := 1) ?hd (cs := #[.int .i64 a0_0, .int .i64 a0_1]) (t := 23) ?hr ?_; (case hd => rfl); (case hg => rfl); (case hr => first | (go_simp; done) | (go_simp; rfl)); intro gb130 hg w9 hbox hb; have BK130 := Aside0.mk (hbox); have GW130 := hz_ hg HB; have GE130 := hz_ hg HB; replace HB := hs HB hb; clear hb hbox hg; obtain ⟨hcz10_0, hcz10_1⟩ := bc2 BK130.out; obtain ⟨hfz10_0, hfz10_1⟩ := bf2 BK130.out)); go_ret; exact ⟨by first | rfl | (simp [errW_none, errW_some] <;> rfl) | (simp [*, errW_none, errW_some] <;> rfl), by repeat first | (with_reducible exact HB.out) | (with_reducible refine bset ?_ ‹_›) | refine bl1 ?_ | exact HB.out⟩
   · rw [if_neg c4] at H; have c4b0 : decide ((-1073741824) ≤ a0_0) = false := decide_eq_false c4; clear c4; obtain rfl := Option.some.inj H; go_enter Tryd.func19, Tryd.ntmps19; go_wp2_with (first | ((with_reducible refine gate_dst (N := 1) rfl ?_); refine box_event ?hg (N := 1) ?hd (cs := #[.int .i64 a0_0, .int .i64 a0_1]) (t := 23) ?hr ?_; (case hd => rfl); (case hg => rfl); (case hr => first | (go_simp; done) | (go_simp; rfl)); intro gb130 hg w11 hbox hb; have BK130 := Aside0.mk (hbox); have GW130 := hz_ hg HB; have GE130 := hz_ hg HB; replace HB := hs HB hb; clear hb hbox hg; obtain ⟨hcz12_0, hcz12_1⟩ := bc2 BK130.out; obtain ⟨hfz12_0, hfz12_1⟩ := bf2 BK130.out)); go_ret; exact ⟨by first | rfl | (simp [errW_none, errW_some] <;> rfl) | (simp [*, errW_none, errW_some] <;> rfl), by repeat first | (with_reducible exact HB.out) | (with_reducible refine bset ?_ ‹_›) | refine bl1 ?_ | exact HB.out⟩
  · rw [if_neg c3] at H; have c3b0 : decide (a0_1 ≤ 1073741824) = false := decide_eq_false c3; clear c3; obtain rfl := Option.some.inj H; go_enter Tryd.func19, Tryd.ntmps19; go_wp2_with (first | ((with_reducible refine gate_dst (N := 1) rfl ?_); refine box_event ?hg (N := 1) ?hd (cs := #[.int .i64 a0_0, .int .i64 a0_1]) (t := 23) ?hr ?_; (case hd => rfl); (case hg => rfl); (case hr => first | (go_simp; done) | (go_simp; rfl)); intro gb130 hg w13 hbox hb; have BK130 := Aside0.mk (hbox); have GW130 := hz_ hg HB; have GE130 := hz_ hg HB; replace HB := hs HB hb; clear hb hbox hg; obtain ⟨hcz14_0, hcz14_1⟩ := bc2 BK130.out; obtain ⟨hfz14_0, hfz14_1⟩ := bf2 BK130.out)); go_ret; exact ⟨by first | rfl | (simp [errW_none, errW_some] <;> rfl) | (simp [*, errW_none, errW_some] <;> rfl), by repeat first | (with_reducible exact HB.out) | (with_reducible refine bset ?_ ‹_›) | refine bl1 ?_ | exact HB.out⟩
 · rw [if_neg c2] at H; have c2b0 : decide (1 ≤ a0_1) = false := decide_eq_false c2; clear c2; obtain rfl := Option.some.inj H; go_enter Tryd.func19, Tryd.ntmps19; go_wp2_with (first | ((with_reducible refine gate_dst (N := 1) rfl ?_); refine box_event ?hg (N := 1) ?hd (cs := #[.int .i64 a0_0, .int .i64 a0_1]) (t := 23) ?hr ?_; (case hd => rfl); (case hg => rfl); (case hr => first | (go_simp; done) | (go_simp; rfl)); intro gb130 hg w15 hbox hb; have BK130 := Aside0.mk (hbox); have GW130 := hz_ hg HB; have GE130 := hz_ hg HB; replace HB := hs HB hb; clear hb hbox hg; obtain ⟨hcz16_0, hcz16_1⟩ := bc2 BK130.out; obtain ⟨hfz16_0, hfz16_1⟩ := bf2 BK130.out)); go_ret; exact ⟨by first | rfl | (simp [errW_none, errW_some] <;> rfl) | (simp [*, errW_none, errW_some] <;> rfl), by repeat first | (with_reducible exact HB.out) | (with_reducible refine bset ?_ ‹_›) | refine bl1 ?_ | exact HB.out⟩
def serinetteref01_None.f  : Option (Int × Int) := some (0, 0)
set_option maxHeartbeats 8000000 in
set_option maxRecDepth 100000 in
theorem serinetteref01_None.calls  (r1 : Int) (r2 : Int) (w : World) (h : serinetteref01_None.f  = some (r1, r2)) :
  Calls Tryd.prog 33 #[] w fun e w' => e = .returned (.agg #[.int .i64 r1, .int .i64 r2]) ∧ Below w.heap.size w w' := by
 have hu23 := Tryd.underlying23; have HB := Aside0.mk (Below.refl w.heap.size w); have H : (some (0, 0)) = some (r1, r2) := h; clear h; simp only [Option.some.injEq, Prod.mk.injEq] at H; obtain ⟨rfl, rfl⟩ := H; go_enter Tryd.func33, Tryd.ntmps33; go_wp2_with (first | ((with_reducible refine gate_dst (N := 0) rfl ?_); refine box_event ?hg (N := 0) ?hd (cs := #[.int .i64 0, .int .i64 0]) (t := 23) ?hr ?_; (case hd => rfl); (case hg => rfl); (case hr => first | (go_simp; done) | (go_simp; rfl)); intro gb132 hg w1 hbox hb; have BK132 := Aside0.mk (hbox); have GW132 := hz_ hg HB; have GE132 := hz_ hg HB; replace HB := hs HB hb; clear hb hbox hg; obtain ⟨hcz2_0, hcz2_1⟩ := bc2 BK132.out; obtain ⟨hfz2_0, hfz2_1⟩ := bf2 BK132.out)); refine bodyPost_ret (results_cell_row rfl _ _ gb132 23 #[.int .i64 0, .int .i64 0] (0, 0) _ rfl (by exact rq BK132.out (by rfl)) Tryd.underlying23 rfl (by kernel_rfl)) rfl ?_; exact ⟨by first | rfl | (simp [errW_none, errW_some] <;> rfl) | (simp [*, errW_none, errW_some] <;> rfl), by repeat first | (with_reducible exact HB.out) | (with_reducible refine bset ?_ ‹_›) | refine bl1 ?_ | exact HB.out⟩
def serinetteref01_Clean.f (k : Nat) (a0_0 : Int) (a0_1 : Int) : Option (Int × Int) := (serinetteref01_Is.f k a0_0 a0_1).bind fun t135 => (if t135 = true then (some (a0_0, a0_1)) else ((serinetteref01_None.f).bind fun bt136 => (some (bt136.1, bt136.2))))
theorem serinetteref01_Clean.mono : ∀ a0 a1 k, LeO (serinetteref01_Clean.f k a0 a1) (serinetteref01_Clean.f (k + 1) a0 a1) := by
 intro a0 a1 k
 unfold serinetteref01_Clean.f
 repeat' first
   | (with_reducible exact serinetteref01_Is.mono _ _ _)
   | (with_reducible exact LeO.refl _)
   | (with_reducible exact LeO.none _)
   | (with_reducible refine LeO.ite ?_ ?_)
   | (with_reducible refine LeO.bind ?_ (fun _ => ?_))
   | exact serinetteref01_Is.mono _ _ _
   | exact LeO.none _
   | refine LeO.ite ?_ ?_
   | refine LeO.bind ?_ (fun _ => ?_)
set_option maxHeartbeats 8000000 in
set_option maxRecDepth 100000 in
theorem serinetteref01_Clean.calls (k : Nat) (a0_0 : Int) (a0_1 : Int) (r1 : Int) (r2 : Int) (w : World) (h : serinetteref01_Clean.f k a0_0 a0_1 = some (r1, r2)) :
  Calls Tryd.prog 18 #[.agg #[.int .i64 a0_0, .int .i64 a0_1]] w fun e w' => e = .returned (.agg #[.int .i64 r1, .int .i64 r2]) ∧ Below w.heap.size w w' := by
 have hu23 := Tryd.underlying23; have HB := Aside0.mk (Below.refl w.heap.size w); have H : ((serinetteref01_Is.f k a0_0 a0_1).bind fun t135 => (if t135 = true then (some (a0_0, a0_1)) else ((serinetteref01_None.f).bind fun bt136 => (some (bt136.1, bt136.2))))) = some (r1, r2) := h; clear h; replace H := Option.bind_eq_some_iff.mp H; obtain ⟨t135, A20, H⟩ := H; (try dsimp only at H); have A2 := Aside0.mk A20; clear A20; by_cases c3 : t135 = true
 · subst c3; rw [if_pos rfl] at H; simp only [Option.some.injEq, Prod.mk.injEq] at H; obtain ⟨rfl, rfl⟩ := H; go_enter Tryd.func18, Tryd.ntmps18; go_wp2_with (first | ((with_reducible refine gate_dst (N := 1) rfl ?_); refine box_event ?hg (N := 1) ?hd (cs := #[.int .i64 a0_0, .int .i64 a0_1]) (t := 23) ?hr ?_; (case hd => rfl); (case hg => rfl); (case hr => first | (go_simp; done) | (go_simp; rfl)); intro gb133 hg w4 hbox hb; have BK133 := Aside0.mk (hbox); have GW133 := hz_ hg HB; have GE133 := hz_ hg HB; replace HB := hs HB hb; clear hb hbox hg) | ((with_reducible refine gate_dst (N := 2) rfl ?_); refine box_event ?hg (N := 2) ?hd (cs := #[.int .i64 0, .int .i64 0]) (t := 23) ?hr ?_; (case hd => rfl); (case hg => rfl); (case hr => first | (go_simp; done) | (go_simp; rfl)); intro gb134 hg w5 hbox hb; have BK134 := Aside0.mk (hbox); have GW134 := Aside0.mk ((by rw [hg]; exact (below_size (by repeat first | (with_reducible exact HB.out) | refine bl1 ?_ | (with_reducible refine bset ?_ ‹_›) | exact HB.out)) : w.heap.size ≤ gb134)); have GE134 := Aside0.mk ((by rw [hg]; exact (below_size (by repeat first | (with_reducible exact HB.out) | refine bl1 ?_ | (with_reducible refine bset ?_ ‹_›) | exact HB.out)) : w.heap.size ≤ gb134)); have NB133_134 := nlk hg BK133; have NB134_133 := ngk hg BK133; replace BK133 := kb BK133 hb; replace HB := Aside0.mk (below_step (by repeat first | (with_reducible exact HB.out) | refine bl1 ?_ | (with_reducible refine bset ?_ ‹_›) | exact HB.out) hb); clear hb hbox hg; have hnb6 := NB133_134.out; have hnc6 := NB134_133.out; obtain ⟨hcz7_0, hcz7_1⟩ := bc2 BK133.out; obtain ⟨hfz7_0, hfz7_1⟩ := bf2 BK133.out) | ((with_reducible refine gate_callee (f := 19) rfl ?_); refine goesL_ (some 4) rfl rfl Tryd.func19 (by kernel_rfl) rfl #[.agg #[.int .i64 a0_0, .int .i64 a0_1]] rfl (by (try simp only [mp]); first | done | rfl | (simp only [ld]; rfl)) ?_; (with_reducible refine (serinetteref01_Is.calls k a0_0 a0_1 true _ A2.out).mono ?_); rintro e w8 ⟨rfl, hb⟩; refine ⟨_, rfl, ?_⟩; replace BK133 := kb BK133 hb; replace BK134 := kb BK134 hb; replace HB := Aside0.mk (below_step (by repeat first | (with_reducible exact HB.out) | refine bl1 ?_ | (with_reducible refine bset ?_ ‹_›) | exact HB.out) hb); (try clear hb); (try clear hb2); (try clear hk); (try clear hi); obtain ⟨hcz9_0, hcz9_1⟩ := bc2 BK133.out; obtain ⟨hfz9_0, hfz9_1⟩ := bf2 BK133.out; obtain ⟨hcz10_0, hcz10_1⟩ := bc2 BK134.out; obtain ⟨hfz10_0, hfz10_1⟩ := bf2 BK134.out)); refine bodyPost_ret (results_cell_row rfl _ _ gb134 23 #[.int .i64 a0_0, .int .i64 a0_1] (0, 0) _ rfl (by exact rq BK134.out (by rfl)) Tryd.underlying23 rfl (by kernel_rfl)) rfl ?_; exact ⟨by first | rfl | (simp [errW_none, errW_some] <;> rfl) | (simp [*, errW_none, errW_some] <;> rfl), by repeat first | (with_reducible exact HB.out) | (with_reducible refine bset ?_ ‹_›) | refine bl1 ?_ | exact HB.out⟩
 · replace c3 := Bool.eq_false_iff.mpr c3; subst c3; rw [if_neg (show ¬ (false = true) by decide)] at H; replace H := Option.bind_eq_some_iff.mp H; obtain ⟨⟨t136, t137⟩, A110, H⟩ := H; (try dsimp only at H); have A11 := Aside0.mk A110; clear A110; simp only [Option.some.injEq, Prod.mk.injEq] at H; obtain ⟨rfl, rfl⟩ := H; go_enter Tryd.func18, Tryd.ntmps18; go_wp2_with (first | ((with_reducible refine gate_dst (N := 1) rfl ?_); refine box_event ?hg (N := 1) ?hd (cs := #[.int .i64 a0_0, .int .i64 a0_1]) (t := 23) ?hr ?_; (case hd => rfl); (case hg => rfl); (case hr => first | (go_simp; done) | (go_simp; rfl)); intro gb133 hg w12 hbox hb; have BK133 := Aside0.mk (hbox); have GW133 := hz_ hg HB; have GE133 := hz_ hg HB; replace HB := hs HB hb; clear hb hbox hg) | ((with_reducible refine gate_dst (N := 2) rfl ?_); refine box_event ?hg (N := 2) ?hd (cs := #[.int .i64 0, .int .i64 0]) (t := 23) ?hr ?_; (case hd => rfl); (case hg => rfl); (case hr => first | (go_simp; done) | (go_simp; rfl)); intro gb134 hg w13 hbox hb; have BK134 := Aside0.mk (hbox); have GW134 := Aside0.mk ((by rw [hg]; exact (below_size (by repeat first | (with_reducible exact HB.out) | refine bl1 ?_ | (with_reducible refine bset ?_ ‹_›) | exact HB.out)) : w.heap.size ≤ gb134)); have GE134 := Aside0.mk ((by rw [hg]; exact (below_size (by repeat first | (with_reducible exact HB.out) | refine bl1 ?_ | (with_reducible refine bset ?_ ‹_›) | exact HB.out)) : w.heap.size ≤ gb134)); have NB133_134 := nlk hg BK133; have NB134_133 := ngk hg BK133; replace BK133 := kb BK133 hb; replace HB := Aside0.mk (below_step (by repeat first | (with_reducible exact HB.out) | refine bl1 ?_ | (with_reducible refine bset ?_ ‹_›) | exact HB.out) hb); clear hb hbox hg; have hnb14 := NB133_134.out; have hnc14 := NB134_133.out; obtain ⟨hcz15_0, hcz15_1⟩ := bc2 BK133.out; obtain ⟨hfz15_0, hfz15_1⟩ := bf2 BK133.out) | ((with_reducible refine gate_callee (f := 19) rfl ?_); refine goesL_ (some 4) rfl rfl Tryd.func19 (by kernel_rfl) rfl #[.agg #[.int .i64 a0_0, .int .i64 a0_1]] rfl (by (try simp only [mp]); first | done | rfl | (simp only [ld]; rfl)) ?_; (with_reducible refine (serinetteref01_Is.calls k a0_0 a0_1 false _ A2.out).mono ?_); rintro e w16 ⟨rfl, hb⟩; refine ⟨_, rfl, ?_⟩; replace BK133 := kb BK133 hb; replace BK134 := kb BK134 hb; replace HB := Aside0.mk (below_step (by repeat first | (with_reducible exact HB.out) | refine bl1 ?_ | (with_reducible refine bset ?_ ‹_›) | exact HB.out) hb); (try clear hb); (try clear hb2); (try clear hk); (try clear hi)) | ((with_reducible refine gate_callee (f := 33) rfl ?_); refine goesL_ (some 6) rfl rfl Tryd.func33 (by kernel_rfl) rfl #[] rfl (by (try simp only [mp]); first | done | rfl | (simp only [ld]; rfl)) ?_; (with_reducible refine (serinetteref01_None.calls  t136 t137 _ A11.out).mono ?_); rintro e w17 ⟨rfl, hb⟩; refine ⟨_, rfl, ?_⟩; replace BK133 := kb BK133 hb; replace BK134 := kb BK134 hb; replace HB := Aside0.mk (below_step (by repeat first | (with_reducible exact HB.out) | refine bl1 ?_ | (with_reducible refine bset ?_ ‹_›) | exact HB.out) hb); (try clear hb); (try clear hb2); (try clear hk); (try clear hi); obtain ⟨hcz18_0, hcz18_1⟩ := bc2 BK134.out; obtain ⟨hfz18_0, hfz18_1⟩ := bf2 BK134.out)); refine bodyPost_ret (results_cell_row rfl _ _ gb134 23 #[.int .i64 t136, .int .i64 t137] (0, 0) _ rfl (by exact rq BK134.out (by rfl)) Tryd.underlying23 rfl (by kernel_rfl)) rfl ?_; exact ⟨by first | rfl | (simp [errW_none, errW_some] <;> rfl) | (simp [*, errW_none, errW_some] <;> rfl), by repeat first | (with_reducible exact HB.out) | (with_reducible refine bset ?_ ‹_›) | refine bl1 ?_ | exact HB.out⟩
def serinetteref01_Cmp.j0 : Nat → Bool → Int → Int → Int → Int → Option (Int)
 | 0, _, _, _, _, _ => none
 | k + 1, x14, x139000, x139001, x140000, x140001 => if x14 = true then (some 0) else ((serinetteref01_Is.f k x139000 x139001).bind fun t142 => (if t142 = true then ((serinetteref01_Is.f k x140000 x140001).bind fun t143 => (if t143 = true then (if (wrap64 (x139000 * x140001)) < (wrap64 (x140000 * x139001)) then (some (-1)) else (if (wrap64 (x139000 * x140001)) > (wrap64 (x140000 * x139001)) then (some 1) else (some 0))) else (some 1))) else (some (-1))))
def serinetteref01_Cmp.f (k : Nat) (a0_0 : Int) (a0_1 : Int) (a1_0 : Int) (a1_1 : Int) : Option (Int) := (serinetteref01_Is.f k a0_0 a0_1).bind fun t140 => (if t140 = true then (serinetteref01_Cmp.j0 k false a0_0 a0_1 a1_0 a1_1) else ((serinetteref01_Is.f k a1_0 a1_1).bind fun t141 => (serinetteref01_Cmp.j0 k (!t141) a0_0 a0_1 a1_0 a1_1)))
theorem serinetteref01_Cmp.mono_l : ∀ k, (∀ y0 y1 y2 y3 y4, LeO (serinetteref01_Cmp.j0 k y0 y1 y2 y3 y4) (serinetteref01_Cmp.j0 (k + 1) y0 y1 y2 y3 y4))
 | 0 => fun _ _ _ _ _ r h => by simp [serinetteref01_Cmp.j0] at h
 | k + 1 => by
  have ih0 := serinetteref01_Cmp.mono_l k
  ·
   intro y0 y1 y2 y3 y4
   unfold serinetteref01_Cmp.j0
   repeat' first
   | (with_reducible exact ih0 _ _ _ _ _)
   | (with_reducible exact serinetteref01_Is.mono _ _ _)
   | (with_reducible exact LeO.refl _)
   | (with_reducible exact LeO.none _)
   | (with_reducible refine LeO.ite ?_ ?_)
   | (with_reducible refine LeO.bind ?_ (fun _ => ?_))
   | exact ih0 _ _ _ _ _
   | exact serinetteref01_Is.mono _ _ _
   | exact LeO.none _
   | refine LeO.ite ?_ ?_
   | refine LeO.bind ?_ (fun _ => ?_)
theorem serinetteref01_Cmp.mono : ∀ a0 a1 a2 a3 k, LeO (serinetteref01_Cmp.f k a0 a1 a2 a3) (serinetteref01_Cmp.f (k + 1) a0 a1 a2 a3) := by
 intro a0 a1 a2 a3 k
 have ih0 := serinetteref01_Cmp.mono_l k
 unfold serinetteref01_Cmp.f
 repeat' first
   | (with_reducible exact ih0 _ _ _ _ _)
   | (with_reducible exact serinetteref01_Is.mono _ _ _)
   | (with_reducible exact LeO.refl _)
   | (with_reducible exact LeO.none _)
   | (with_reducible refine LeO.ite ?_ ?_)
   | (with_reducible refine LeO.bind ?_ (fun _ => ?_))
   | exact ih0 _ _ _ _ _
   | exact serinetteref01_Is.mono _ _ _
   | exact LeO.none _
   | refine LeO.ite ?_ ?_
   | refine LeO.bind ?_ (fun _ => ?_)
set_option maxHeartbeats 8000000 in
set_option maxRecDepth 100000 in
theorem serinetteref01_Cmp.calls (k : Nat) (a0_0 : Int) (a0_1 : Int) (a1_0 : Int) (a1_1 : Int) (r : Int) (w : World) (h : serinetteref01_Cmp.f k a0_0 a0_1 a1_0 a1_1 = some r) :
  Calls Tryd.prog 20 #[.agg #[.int .i64 a0_0, .int .i64 a0_1], .agg #[.int .i64 a1_0, .int .i64 a1_1]] w fun e w' => e = .returned (.int .i64 r) ∧ Below w.heap.size w w' := by
 have hu23 := Tryd.underlying23; have HB := Aside0.mk (Below.refl w.heap.size w); have H : ((serinetteref01_Is.f k a0_0 a0_1).bind fun t140 => (if t140 = true then (serinetteref01_Cmp.j0 k false a0_0 a0_1 a1_0 a1_1) else ((serinetteref01_Is.f k a1_0 a1_1).bind fun t141 => (serinetteref01_Cmp.j0 k (!t141) a0_0 a0_1 a1_0 a1_1)))) = some r := h; clear h; have HC3 := Aside0.mk H; clear H; go_enter Tryd.func20, Tryd.ntmps20; go_upto_region 1 with (first | ((with_reducible refine gate_dst (N := 2) rfl ?_); refine box_event ?hg (N := 2) ?hd (cs := #[.int .i64 a0_0, .int .i64 a0_1]) (t := 23) ?hr ?_; (case hd => rfl); (case hg => rfl); (case hr => first | (go_simp; done) | (go_simp; rfl)); intro gb138 hg w4 hbox hb; have BK138 := Aside0.mk (hbox); have GW138 := hz_ hg HB; have GE138 := hz_ hg HB; replace HB := hs HB hb; clear hb hbox hg) | ((with_reducible refine gate_dst (N := 3) rfl ?_); refine box_event ?hg (N := 3) ?hd (cs := #[.int .i64 a1_0, .int .i64 a1_1]) (t := 23) ?hr ?_; (case hd => rfl); (case hg => rfl); (case hr => first | (go_simp; done) | (go_simp; rfl)); intro gb139 hg w5 hbox hb; have BK139 := Aside0.mk (hbox); have GW139 := Aside0.mk ((by rw [hg]; exact (below_size (by repeat first | (with_reducible exact HB.out) | refine bl1 ?_ | (with_reducible refine bset ?_ ‹_›) | exact HB.out)) : w.heap.size ≤ gb139)); have GE139 := Aside0.mk ((by rw [hg]; exact (below_size (by repeat first | (with_reducible exact HB.out) | refine bl1 ?_ | (with_reducible refine bset ?_ ‹_›) | exact HB.out)) : w.heap.size ≤ gb139)); have NB138_139 := nlk hg BK138; have NB139_138 := ngk hg BK138; replace BK138 := kb BK138 hb; replace HB := Aside0.mk (below_step (by repeat first | (with_reducible exact HB.out) | refine bl1 ?_ | (with_reducible refine bset ?_ ‹_›) | exact HB.out) hb); clear hb hbox hg)); (try simp only [Act.put, List.setIfInBounds_toArray, List.set_cons_zero, List.set_cons_succ])
 go_cut [14] (fun v14 wc => ∃ (kq : Nat) (x14_2 : Bool), v14 = .bool x14_2 ∧ Aside0 (serinetteref01_Cmp.j0 kq x14_2 a0_0 a0_1 a1_0 a1_1 = some r) ∧ Aside0 (kq ≤ k) ∧ Aside0 (wc.heap[gb138]? = some (.cells #[.int .i64 a0_0, .int .i64 a0_1] 23 (0, 0))) ∧ Aside0 (wc.heap[gb139]? = some (.cells #[.int .i64 a1_0, .int .i64 a1_1] 23 (0, 0))) ∧ Aside0 (Below w.heap.size w wc))
 case first =>
  have H := HC3.out; clear HC3; replace H := Option.bind_eq_some_iff.mp H; obtain ⟨t140, A60, H⟩ := H; (try dsimp only at H); have A6 := Aside0.mk A60; clear A60; by_cases c7 : t140 = true
  ·
   subst c7; rw [if_pos rfl] at H; have H' := Aside0.mk H; clear H; have hnb8 := NB138_139.out; have hnc8 := NB139_138.out; obtain ⟨hcz9_0, hcz9_1⟩ := bc2 BK138.out; obtain ⟨hfz9_0, hfz9_1⟩ := bf2 BK138.out; go_wp2_with (first | ((with_reducible refine gate_callee (f := 19) rfl ?_); refine goesL_ (some 8) rfl rfl Tryd.func19 (by kernel_rfl) rfl #[.agg #[.int .i64 a0_0, .int .i64 a0_1]] rfl (by (try simp only [mp]); first | done | rfl | (simp only [ld]; rfl)) ?_; (with_reducible refine (serinetteref01_Is.calls k a0_0 a0_1 true _ A6.out).mono ?_); rintro e w10 ⟨rfl, hb⟩; refine ⟨_, rfl, ?_⟩; replace BK138 := kb BK138 hb; replace BK139 := kb BK139 hb; replace HB := Aside0.mk (below_step (by repeat first | (with_reducible exact HB.out) | refine bl1 ?_ | (with_reducible refine bset ?_ ‹_›) | exact HB.out) hb); (try clear hb); (try clear hb2); (try clear hk); (try clear hi))); go_meet
   case rel => exact ⟨_, (false), (by first | rfl | (simp; done) | (simp [*]; done)), H', ⟨by first | omega | exact Nat.le_refl _⟩, ⟨by refine bk ?_; exact BK138.out⟩, ⟨by refine bk ?_; exact BK139.out⟩, ⟨by repeat first | (with_reducible exact HB.out) | (with_reducible refine bset ?_ ‹_›) | refine bl1 ?_ | exact HB.out⟩⟩
  ·
   replace c7 := Bool.eq_false_iff.mpr c7; subst c7; rw [if_neg (show ¬ (false = true) by decide)] at H; replace H := Option.bind_eq_some_iff.mp H; obtain ⟨t141, A110, H⟩ := H; (try dsimp only at H); have A11 := Aside0.mk A110; clear A110; have H' := Aside0.mk H; clear H; have hnb12 := NB138_139.out; have hnc12 := NB139_138.out; obtain ⟨hcz13_0, hcz13_1⟩ := bc2 BK138.out; obtain ⟨hfz13_0, hfz13_1⟩ := bf2 BK138.out; go_wp2_with (first | ((with_reducible refine gate_callee (f := 19) rfl ?_); refine goesL_ (some 8) rfl rfl Tryd.func19 (by kernel_rfl) rfl #[.agg #[.int .i64 a0_0, .int .i64 a0_1]] rfl (by (try simp only [mp]); first | done | rfl | (simp only [ld]; rfl)) ?_; (with_reducible refine (serinetteref01_Is.calls k a0_0 a0_1 false _ A6.out).mono ?_); rintro e w14 ⟨rfl, hb⟩; refine ⟨_, rfl, ?_⟩; replace BK138 := kb BK138 hb; replace BK139 := kb BK139 hb; replace HB := Aside0.mk (below_step (by repeat first | (with_reducible exact HB.out) | refine bl1 ?_ | (with_reducible refine bset ?_ ‹_›) | exact HB.out) hb); (try clear hb); (try clear hb2); (try clear hk); (try clear hi); obtain ⟨hcz15_0, hcz15_1⟩ := bc2 BK139.out; obtain ⟨hfz15_0, hfz15_1⟩ := bf2 BK139.out) | (go_at_call 19; (with_reducible refine (serinetteref01_Is.calls k a1_0 a1_1 t141 _ A11.out).mono ?_); rintro e w16 ⟨rfl, hb⟩; replace BK138 := kb BK138 hb; replace BK139 := kb BK139 hb; replace HB := Aside0.mk (below_step (by repeat first | (with_reducible exact HB.out) | refine bl1 ?_ | (with_reducible refine bset ?_ ‹_›) | exact HB.out) hb); (try clear hb); (try clear hb2); (try clear hk); (try clear hi))); go_meet
   case rel => exact ⟨_, (!t141), (by first | rfl | (simp; done) | (simp [*]; done)), H', ⟨by first | omega | exact Nat.le_refl _⟩, ⟨by refine bk ?_; exact BK138.out⟩, ⟨by refine bk ?_; exact BK139.out⟩, ⟨by repeat first | (with_reducible exact HB.out) | (with_reducible refine bset ?_ ‹_›) | refine bl1 ?_ | exact HB.out⟩⟩
 case rest =>
  clear HC3; (try clear c1); (try clear c2); (try clear p2); (try clear c7); (try clear c8); (try clear c12); (try clear hcz13_0); (try clear hcz13_1); (try clear hcz15_0); (try clear hcz15_1); (try clear hcz9_0); (try clear hcz9_1); (try clear hfz13_0); (try clear hfz13_1); (try clear hfz15_0); (try clear hfz15_1); (try clear hfz9_0); (try clear hfz9_1); obtain ⟨kq, x14_2, rfl, HA, HJ2, BK138, BK139, HB⟩ := hcut; cases kq with
  | zero => exact absurd HA.out (by simp [serinetteref01_Cmp.j0])
  | succ kj2 =>
   have H := HA.out; clear HA; simp only [serinetteref01_Cmp.j0] at H; by_cases c17 : x14_2 = true
   · subst c17; rw [if_pos rfl] at H; obtain rfl := Option.some.inj H; go_wp2; go_ret; exact ⟨by first | rfl | (simp [errW_none, errW_some] <;> rfl) | (simp [*, errW_none, errW_some] <;> rfl), by repeat first | (with_reducible exact HB.out) | (with_reducible refine bset ?_ ‹_›) | refine bl1 ?_ | exact HB.out⟩
   ·
    replace c17 := Bool.eq_false_iff.mpr c17; subst c17; rw [if_neg (show ¬ (false = true) by decide)] at H; replace H := Option.bind_eq_some_iff.mp H; obtain ⟨t142, A180, H⟩ := H; (try dsimp only at H); have A18 := Aside0.mk A180; clear A180; by_cases c19 : t142 = true
    ·
     subst c19; rw [if_pos rfl] at H; replace H := Option.bind_eq_some_iff.mp H; obtain ⟨t143, A200, H⟩ := H; (try dsimp only at H); have A20 := Aside0.mk A200; clear A200; by_cases c21 : t143 = true
     ·
      subst c21; rw [if_pos rfl] at H; by_cases c22 : (wrap64 (a0_0 * a1_1)) < (wrap64 (a1_0 * a0_1))
      · rw [if_pos c22] at H; have c22b0 : decide ((wrap64 (a0_0 * a1_1)) < (wrap64 (a1_0 * a0_1))) = true := decide_eq_true c22; clear c22; obtain rfl := Option.some.inj H; have hnb23 := NB138_139.out; have hnc23 := NB139_138.out; obtain ⟨hcz24_0, hcz24_1⟩ := bc2 BK138.out; obtain ⟨hfz24_0, hfz24_1⟩ := bf2 BK138.out; go_wp2_with (first | ((with_reducible refine gate_callee (f := 19) rfl ?_); refine goesL_ (some 16) rfl rfl Tryd.func19 (by kernel_rfl) rfl #[.agg #[.int .i64 a0_0, .int .i64 a0_1]] rfl (by (try simp only [mp]); first | done | rfl | (simp only [ld]; rfl)) ?_; (with_reducible refine (serinetteref01_Is.calls kj2 a0_0 a0_1 true _ A18.out).mono ?_); rintro e w25 ⟨rfl, hb⟩; refine ⟨_, rfl, ?_⟩; replace BK138 := kb BK138 hb; replace BK139 := kb BK139 hb; replace HB := Aside0.mk (below_step (by repeat first | (with_reducible exact HB.out) | refine bl1 ?_ | (with_reducible refine bset ?_ ‹_›) | exact HB.out) hb); (try clear hb); (try clear hb2); (try clear hk); (try clear hi); obtain ⟨hcz26_0, hcz26_1⟩ := bc2 BK139.out; obtain ⟨hfz26_0, hfz26_1⟩ := bf2 BK139.out) | ((with_reducible refine gate_callee (f := 19) rfl ?_); refine goesL_ (some 19) rfl rfl Tryd.func19 (by kernel_rfl) rfl #[.agg #[.int .i64 a1_0, .int .i64 a1_1]] rfl (by (try simp only [mp]); first | done | rfl | (simp only [ld]; rfl)) ?_; (with_reducible refine (serinetteref01_Is.calls kj2 a1_0 a1_1 true _ A20.out).mono ?_); rintro e w27 ⟨rfl, hb⟩; refine ⟨_, rfl, ?_⟩; replace BK138 := kb BK138 hb; replace BK139 := kb BK139 hb; replace HB := Aside0.mk (below_step (by repeat first | (with_reducible exact HB.out) | refine bl1 ?_ | (with_reducible refine bset ?_ ‹_›) | exact HB.out) hb); (try clear hb); (try clear hb2); (try clear hk); (try clear hi); obtain ⟨hcz28_0, hcz28_1⟩ := bc2 BK138.out; obtain ⟨hfz28_0, hfz28_1⟩ := bf2 BK138.out; obtain ⟨hcz29_0, hcz29_1⟩ := bc2 BK139.out; obtain ⟨hfz29_0, hfz29_1⟩ := bf2 BK139.out)); go_ret; exact ⟨by first | rfl | (simp [errW_none, errW_some] <;> rfl) | (simp [*, errW_none, errW_some] <;> rfl), by repeat first | (with_reducible exact HB.out) | (with_reducible refine bset ?_ ‹_›) | refine bl1 ?_ | exact HB.out⟩
      ·
       rw [if_neg c22] at H; have c22b0 : decide ((wrap64 (a0_0 * a1_1)) < (wrap64 (a1_0 * a0_1))) = false := decide_eq_false c22; clear c22; by_cases c30 : (wrap64 (a0_0 * a1_1)) > (wrap64 (a1_0 * a0_1))
       · rw [if_pos c30] at H; have c30b0 : decide ((wrap64 (a1_0 * a0_1)) < (wrap64 (a0_0 * a1_1))) = true := decide_eq_true c30; clear c30; obtain rfl := Option.some.inj H; have hnb31 := NB138_139.out; have hnc31 := NB139_138.out; obtain ⟨hcz32_0, hcz32_1⟩ := bc2 BK138.out; obtain ⟨hfz32_0, hfz32_1⟩ := bf2 BK138.out; go_wp2_with (first | ((with_reducible refine gate_callee (f := 19) rfl ?_); refine goesL_ (some 16) rfl rfl Tryd.func19 (by kernel_rfl) rfl #[.agg #[.int .i64 a0_0, .int .i64 a0_1]] rfl (by (try simp only [mp]); first | done | rfl | (simp only [ld]; rfl)) ?_; (with_reducible refine (serinetteref01_Is.calls kj2 a0_0 a0_1 true _ A18.out).mono ?_); rintro e w33 ⟨rfl, hb⟩; refine ⟨_, rfl, ?_⟩; replace BK138 := kb BK138 hb; replace BK139 := kb BK139 hb; replace HB := Aside0.mk (below_step (by repeat first | (with_reducible exact HB.out) | refine bl1 ?_ | (with_reducible refine bset ?_ ‹_›) | exact HB.out) hb); (try clear hb); (try clear hb2); (try clear hk); (try clear hi); obtain ⟨hcz34_0, hcz34_1⟩ := bc2 BK139.out; obtain ⟨hfz34_0, hfz34_1⟩ := bf2 BK139.out) | ((with_reducible refine gate_callee (f := 19) rfl ?_); refine goesL_ (some 19) rfl rfl Tryd.func19 (by kernel_rfl) rfl #[.agg #[.int .i64 a1_0, .int .i64 a1_1]] rfl (by (try simp only [mp]); first | done | rfl | (simp only [ld]; rfl)) ?_; (with_reducible refine (serinetteref01_Is.calls kj2 a1_0 a1_1 true _ A20.out).mono ?_); rintro e w35 ⟨rfl, hb⟩; refine ⟨_, rfl, ?_⟩; replace BK138 := kb BK138 hb; replace BK139 := kb BK139 hb; replace HB := Aside0.mk (below_step (by repeat first | (with_reducible exact HB.out) | refine bl1 ?_ | (with_reducible refine bset ?_ ‹_›) | exact HB.out) hb); (try clear hb); (try clear hb2); (try clear hk); (try clear hi); obtain ⟨hcz36_0, hcz36_1⟩ := bc2 BK138.out; obtain ⟨hfz36_0, hfz36_1⟩ := bf2 BK138.out; obtain ⟨hcz37_0, hcz37_1⟩ := bc2 BK139.out; obtain ⟨hfz37_0, hfz37_1⟩ := bf2 BK139.out)); go_ret; exact ⟨by first | rfl | (simp [errW_none, errW_some] <;> rfl) | (simp [*, errW_none, errW_some] <;> rfl), by repeat first | (with_reducible exact HB.out) | (with_reducible refine bset ?_ ‹_›) | refine bl1 ?_ | exact HB.out⟩
       · rw [if_neg c30] at H; have c30b0 : decide ((wrap64 (a1_0 * a0_1)) < (wrap64 (a0_0 * a1_1))) = false := decide_eq_false c30; clear c30; obtain rfl := Option.some.inj H; have hnb38 := NB138_139.out; have hnc38 := NB139_138.out; obtain ⟨hcz39_0, hcz39_1⟩ := bc2 BK138.out; obtain ⟨hfz39_0, hfz39_1⟩ := bf2 BK138.out; go_wp2_with (first | ((with_reducible refine gate_callee (f := 19) rfl ?_); refine goesL_ (some 16) rfl rfl Tryd.func19 (by kernel_rfl) rfl #[.agg #[.int .i64 a0_0, .int .i64 a0_1]] rfl (by (try simp only [mp]); first | done | rfl | (simp only [ld]; rfl)) ?_; (with_reducible refine (serinetteref01_Is.calls kj2 a0_0 a0_1 true _ A18.out).mono ?_); rintro e w40 ⟨rfl, hb⟩; refine ⟨_, rfl, ?_⟩; replace BK138 := kb BK138 hb; replace BK139 := kb BK139 hb; replace HB := Aside0.mk (below_step (by repeat first | (with_reducible exact HB.out) | refine bl1 ?_ | (with_reducible refine bset ?_ ‹_›) | exact HB.out) hb); (try clear hb); (try clear hb2); (try clear hk); (try clear hi); obtain ⟨hcz41_0, hcz41_1⟩ := bc2 BK139.out; obtain ⟨hfz41_0, hfz41_1⟩ := bf2 BK139.out) | ((with_reducible refine gate_callee (f := 19) rfl ?_); refine goesL_ (some 19) rfl rfl Tryd.func19 (by kernel_rfl) rfl #[.agg #[.int .i64 a1_0, .int .i64 a1_1]] rfl (by (try simp only [mp]); first | done | rfl | (simp only [ld]; rfl)) ?_; (with_reducible refine (serinetteref01_Is.calls kj2 a1_0 a1_1 true _ A20.out).mono ?_); rintro e w42 ⟨rfl, hb⟩; refine ⟨_, rfl, ?_⟩; replace BK138 := kb BK138 hb; replace BK139 := kb BK139 hb; replace HB := Aside0.mk (below_step (by repeat first | (with_reducible exact HB.out) | refine bl1 ?_ | (with_reducible refine bset ?_ ‹_›) | exact HB.out) hb); (try clear hb); (try clear hb2); (try clear hk); (try clear hi); obtain ⟨hcz43_0, hcz43_1⟩ := bc2 BK138.out; obtain ⟨hfz43_0, hfz43_1⟩ := bf2 BK138.out; obtain ⟨hcz44_0, hcz44_1⟩ := bc2 BK139.out; obtain ⟨hfz44_0, hfz44_1⟩ := bf2 BK139.out)); go_ret; exact ⟨by first | rfl | (simp [errW_none, errW_some] <;> rfl) | (simp [*, errW_none, errW_some] <;> rfl), by repeat first | (with_reducible exact HB.out) | (with_reducible refine bset ?_ ‹_›) | refine bl1 ?_ | exact HB.out⟩
     · replace c21 := Bool.eq_false_iff.mpr c21; subst c21; rw [if_neg (show ¬ (false = true) by decide)] at H; obtain rfl := Option.some.inj H; have hnb45 := NB138_139.out; have hnc45 := NB139_138.out; obtain ⟨hcz46_0, hcz46_1⟩ := bc2 BK138.out; obtain ⟨hfz46_0, hfz46_1⟩ := bf2 BK138.out; go_wp2_with (first | ((with_reducible refine gate_callee (f := 19) rfl ?_); refine goesL_ (some 16) rfl rfl Tryd.func19 (by kernel_rfl) rfl #[.agg #[.int .i64 a0_0, .int .i64 a0_1]] rfl (by (try simp only [mp]); first | done | rfl | (simp only [ld]; rfl)) ?_; (with_reducible refine (serinetteref01_Is.calls kj2 a0_0 a0_1 true _ A18.out).mono ?_); rintro e w47 ⟨rfl, hb⟩; refine ⟨_, rfl, ?_⟩; replace BK138 := kb BK138 hb; replace BK139 := kb BK139 hb; replace HB := Aside0.mk (below_step (by repeat first | (with_reducible exact HB.out) | refine bl1 ?_ | (with_reducible refine bset ?_ ‹_›) | exact HB.out) hb); (try clear hb); (try clear hb2); (try clear hk); (try clear hi); obtain ⟨hcz48_0, hcz48_1⟩ := bc2 BK139.out; obtain ⟨hfz48_0, hfz48_1⟩ := bf2 BK139.out) | ((with_reducible refine gate_callee (f := 19) rfl ?_); refine goesL_ (some 19) rfl rfl Tryd.func19 (by kernel_rfl) rfl #[.agg #[.int .i64 a1_0, .int .i64 a1_1]] rfl (by (try simp only [mp]); first | done | rfl | (simp only [ld]; rfl)) ?_; (with_reducible refine (serinetteref01_Is.calls kj2 a1_0 a1_1 false _ A20.out).mono ?_); rintro e w49 ⟨rfl, hb⟩; refine ⟨_, rfl, ?_⟩; replace BK138 := kb BK138 hb; replace BK139 := kb BK139 hb; replace HB := Aside0.mk (below_step (by repeat first | (with_reducible exact HB.out) | refine bl1 ?_ | (with_reducible refine bset ?_ ‹_›) | exact HB.out) hb); (try clear hb); (try clear hb2); (try clear hk); (try clear hi))); go_ret; exact ⟨by first | rfl | (simp [errW_none, errW_some] <;> rfl) | (simp [*, errW_none, errW_some] <;> rfl), by repeat first | (with_reducible exact HB.out) | (with_reducible refine bset ?_ ‹_›) | refine bl1 ?_ | exact HB.out⟩
    · replace c19 := Bool.eq_false_iff.mpr c19; subst c19; rw [if_neg (show ¬ (false = true) by decide)] at H; obtain rfl := Option.some.inj H; have hnb50 := NB138_139.out; have hnc50 := NB139_138.out; obtain ⟨hcz51_0, hcz51_1⟩ := bc2 BK138.out; obtain ⟨hfz51_0, hfz51_1⟩ := bf2 BK138.out; go_wp2_with (first | ((with_reducible refine gate_callee (f := 19) rfl ?_); refine goesL_ (some 16) rfl rfl Tryd.func19 (by kernel_rfl) rfl #[.agg #[.int .i64 a0_0, .int .i64 a0_1]] rfl (by (try simp only [mp]); first | done | rfl | (simp only [ld]; rfl)) ?_; (with_reducible refine (serinetteref01_Is.calls kj2 a0_0 a0_1 false _ A18.out).mono ?_); rintro e w52 ⟨rfl, hb⟩; refine ⟨_, rfl, ?_⟩; replace BK138 := kb BK138 hb; replace BK139 := kb BK139 hb; replace HB := Aside0.mk (below_step (by repeat first | (with_reducible exact HB.out) | refine bl1 ?_ | (with_reducible refine bset ?_ ‹_›) | exact HB.out) hb); (try clear hb); (try clear hb2); (try clear hk); (try clear hi))); go_ret; exact ⟨by first | rfl | (simp [errW_none, errW_some] <;> rfl) | (simp [*, errW_none, errW_some] <;> rfl), by repeat first | (with_reducible exact HB.out) | (with_reducible refine bset ?_ ‹_›) | refine bl1 ?_ | exact HB.out⟩
mutual
def serinetteref03_Make.j0 : Nat → Int → Bool → Int → Int → Int → Int → Option (Int × Int × Int × Int × Int × Bool × Bool)
 | 0, _, _, _, _, _, _ => none
 | k + 1, x2, x13, x145000, x145001, x146000, x146001 => if x13 = true then (serinetteref03_Make.j1 k 0 x145000 x145001 x146000 x146001) else (serinetteref03_Make.j1 k x2 x145000 x145001 x146000 x146001)
def serinetteref03_Make.j1 : Nat → Int → Int → Int → Int → Int → Option (Int × Int × Int × Int × Int × Bool × Bool)
 | 0, _, _, _, _, _ => none
 | k + 1, x2, x145000, x145001, x146000, x146001 => (serinetteref01_Clean.f k x145000 x145001).bind fun bt147 => ((serinetteref01_Clean.f k x146000 x146001).bind fun bt149 => ((serinetteref01_Is.f k x145000 x145001).bind fun t152 => (if t152 = true then ((serinetteref01_Is.f k x146000 x146001).bind fun t153 => (if t153 = true then ((serinetteref01_Cmp.f k x145000 x145001 x146000 x146001).bind fun t154 => (if t154 > 0 then ((serinetteref03_Empty.f false).bind fun bt155 => (some (bt155.1, bt155.2.1, bt155.2.2.1, bt155.2.2.2.1, bt155.2.2.2.2.1, bt155.2.2.2.2.2.1, bt155.2.2.2.2.2.2))) else (some (bt147.1, bt147.2, bt149.1, bt149.2, x2, false, false)))) else (some (bt147.1, bt147.2, bt149.1, bt149.2, x2, false, false)))) else (some (bt147.1, bt147.2, bt149.1, bt149.2, x2, false, false)))))
end
def serinetteref03_Make.f (k : Nat) (a0_0 : Int) (a0_1 : Int) (a1_0 : Int) (a1_1 : Int) (a2 : Int) : Option (Int × Int × Int × Int × Int × Bool × Bool) := if a2 < 0 then (serinetteref03_Make.j0 k a2 true a0_0 a0_1 a1_0 a1_1) else (serinetteref03_Make.j0 k a2 (decide (a2 > 1073741824)) a0_0 a0_1 a1_0 a1_1)
theorem serinetteref03_Make.mono_l : ∀ k, (∀ y0 y1 y2 y3 y4 y5, LeO (serinetteref03_Make.j0 k y0 y1 y2 y3 y4 y5) (serinetteref03_Make.j0 (k + 1) y0 y1 y2 y3 y4 y5)) ∧ (∀ y0 y1 y2 y3 y4, LeO (serinetteref03_Make.j1 k y0 y1 y2 y3 y4) (serinetteref03_Make.j1 (k + 1) y0 y1 y2 y3 y4))
 | 0 => ⟨fun _ _ _ _ _ _ r h => by simp [serinetteref03_Make.j0] at h, fun _ _ _ _ _ r h => by simp [serinetteref03_Make.j1] at h⟩
 | k + 1 => by
  obtain ⟨ih0, ih1⟩ := serinetteref03_Make.mono_l k
  refine ⟨?_, ?_⟩
  ·
   intro y0 y1 y2 y3 y4 y5
   unfold serinetteref03_Make.j0
   repeat' first
   | (with_reducible exact ih0 _ _ _ _ _ _)
   | (with_reducible exact ih1 _ _ _ _ _)
   | (with_reducible exact serinetteref01_Clean.mono _ _ _)
   | (with_reducible exact serinetteref01_Cmp.mono _ _ _ _ _)
   | (with_reducible exact serinetteref01_Is.mono _ _ _)
   | (with_reducible exact LeO.refl _)
   | (with_reducible exact LeO.none _)
   | (with_reducible refine LeO.ite ?_ ?_)
   | (with_reducible refine LeO.bind ?_ (fun _ => ?_))
   | exact ih0 _ _ _ _ _ _
   | exact ih1 _ _ _ _ _
   | exact serinetteref01_Clean.mono _ _ _
   | exact serinetteref01_Cmp.mono _ _ _ _ _
   | exact serinetteref01_Is.mono _ _ _
   | exact LeO.none _
   | refine LeO.ite ?_ ?_
   | refine LeO.bind ?_ (fun _ => ?_)
  ·
   intro y0 y1 y2 y3 y4
   unfold serinetteref03_Make.j1
   repeat' first
   | (with_reducible exact ih0 _ _ _ _ _ _)
   | (with_reducible exact ih1 _ _ _ _ _)
   | (with_reducible exact serinetteref01_Clean.mono _ _ _)
   | (with_reducible exact serinetteref01_Cmp.mono _ _ _ _ _)
   | (with_reducible exact serinetteref01_Is.mono _ _ _)
   | (with_reducible exact LeO.refl _)
   | (with_reducible exact LeO.none _)
   | (with_reducible refine LeO.ite ?_ ?_)
   | (with_reducible refine LeO.bind ?_ (fun _ => ?_))
   | exact ih0 _ _ _ _ _ _
   | exact ih1 _ _ _ _ _
   | exact serinetteref01_Clean.mono _ _ _
   | exact serinetteref01_Cmp.mono _ _ _ _ _
   | exact serinetteref01_Is.mono _ _ _
   | exact LeO.none _
   | refine LeO.ite ?_ ?_
   | refine LeO.bind ?_ (fun _ => ?_)
theorem serinetteref03_Make.mono : ∀ a0 a1 a2 a3 a4 k, LeO (serinetteref03_Make.f k a0 a1 a2 a3 a4) (serinetteref03_Make.f (k + 1) a0 a1 a2 a3 a4) := by
 intro a0 a1 a2 a3 a4 k
 obtain ⟨ih0, ih1⟩ := serinetteref03_Make.mono_l k
 unfold serinetteref03_Make.f
 repeat' first
   | (with_reducible exact ih0 _ _ _ _ _ _)
   | (with_reducible exact ih1 _ _ _ _ _)
   | (with_reducible exact serinetteref01_Clean.mono _ _ _)
   | (with_reducible exact serinetteref01_Cmp.mono _ _ _ _ _)
   | (with_reducible exact serinetteref01_Is.mono _ _ _)
   | (with_reducible exact LeO.refl _)
   | (with_reducible exact LeO.none _)
   | (with_reducible refine LeO.ite ?_ ?_)
   | (with_reducible refine LeO.bind ?_ (fun _ => ?_))
   | exact ih0 _ _ _ _ _ _
   | exact ih1 _ _ _ _ _
   | exact serinetteref01_Clean.mono _ _ _
   | exact serinetteref01_Cmp.mono _ _ _ _ _
   | exact serinetteref01_Is.mono _ _ _
   | exact LeO.none _
   | refine LeO.ite ?_ ?_
   | refine LeO.bind ?_ (fun _ => ?_)
def serinetteref03_Make.T3 : Bool × List (List Nat × List Nat) := (true, [([], []), ([0], [0]), ([], []), ([2, 1], [2]), ([], []), ([1, 3, 4], [1, 3, 4]), ([], []), ([6, 5, 3, 0, 1, 2, 3, 4, 5, 6], [5, 6])])
def serinetteref03_Make.B3 : List Nat := [0, 1, 0, 7, 0, 31, 0, 127]
theorem serinetteref03_Make.tab3 : rtab .any (opsOf Tryd.f6 3) = serinetteref03_Make.T3 := by kernel_rfl
theorem serinetteref03_Make.bits3 : waitsOk serinetteref03_Make.T3.2 serinetteref03_Make.B3 = true := by kernel_rfl
end Go.Proofs.YtlibjgmnookakaaDoor.SSpanMakes
