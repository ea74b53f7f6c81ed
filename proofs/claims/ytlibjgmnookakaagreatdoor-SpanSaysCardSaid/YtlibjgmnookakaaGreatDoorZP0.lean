/- Parts of the proof of SpanSays, joined by program out of this session's own texts. -/
import Derived.Test.YtlibjgmnookakaaGreatDoorZB0
set_option linter.unusedVariables false
set_option linter.unusedSimpArgs false
namespace Go.Proofs.YtlibjgmnookakaaGreatDoor.FI
open Go.RowKit Go.Proofs.YtlibjgmnookakaaGreatDoor.Wd.PrintWords
def laysI_ren : Go.Shelf.Ren := ⟨fun | 173 => 33 | 246 => 53 | 283 => 63 | 284 => 64 | 285 => 65 | 286 => 66 | 129 => 89 | 317 => 88 | 318 => 90 | 319 => 91 | 320 => 92 | 337 => 101 | 338 => 102 | n => n, fun | 2 => 2 | 3 => 3 | 9 => 9 | 4 => 4 | 171 => 62 | 0 => 0 | 53 => 51 | 37 => 65 | 5 => 5 | 173 => 66 | 212 => 80 | 51 => 81 | 20 => 20 | 213 => 82 | 46 => 84 | 232 => 94 | 233 => 95 | n => n, fun | 17 => 0 | 18 => 1 | 19 => 2 | n => n⟩
theorem laysI : LaysM.n173 Tryz.prog laysI_ren where
  mixed := by kernel_rfl
  f129 := Tryz.func89.trans (congrArg some (by kernel_rfl))
  f173 := Tryz.func33.trans (congrArg some (by kernel_rfl))
  f246 := Tryz.func53.trans (congrArg some (by kernel_rfl))
  f283 := Tryz.func63.trans (congrArg some (by kernel_rfl))
  f284 := Tryz.func64.trans (congrArg some (by kernel_rfl))
  f285 := Tryz.func65.trans (congrArg some (by kernel_rfl))
  f286 := Tryz.func66.trans (congrArg some (by kernel_rfl))
  f317 := Tryz.func88.trans (congrArg some (by kernel_rfl))
  f318 := Tryz.func90.trans (congrArg some (by kernel_rfl))
  f319 := Tryz.func91.trans (congrArg some (by kernel_rfl))
  f320 := Tryz.func92.trans (congrArg some (by kernel_rfl))
  f337 := Tryz.func101.trans (congrArg some (by kernel_rfl))
  f338 := Tryz.func102.trans (congrArg some (by kernel_rfl))
  t0 := Tryz.underlying0
  a0 := Tryz.isAgg0
  z0 := Tryz.sizeOf0
  v0 := Tryz.zeroValue0
  t2 := Tryz.underlying2
  a2 := Tryz.isAgg2
  z2 := Tryz.sizeOf2
  v2 := Tryz.zeroValue2
  t3 := Tryz.underlying3
  a3 := Tryz.isAgg3
  z3 := Tryz.sizeOf3
  v3 := Tryz.zeroValue3
  t4 := Tryz.underlying4
  a4 := Tryz.isAgg4
  z4 := Tryz.sizeOf4
  v4 := Tryz.zeroValue4
  t5 := Tryz.underlying5
  a5 := Tryz.isAgg5
  z5 := Tryz.sizeOf5
  v5 := Tryz.zeroValue5
  t9 := Tryz.underlying9
  a9 := Tryz.isAgg9
  z9 := Tryz.sizeOf9
  v9 := Tryz.zeroValue9
  t20 := Tryz.underlying20
  a20 := Tryz.isAgg20
  z20 := Tryz.sizeOf20
  v20 := Tryz.zeroValue20
  t37 := Tryz.underlying65
  a37 := Tryz.isAgg65
  z37 := Tryz.sizeOf65
  v37 := Tryz.zeroValue65
  t46 := Tryz.underlying84
  a46 := Tryz.isAgg84
  z46 := Tryz.sizeOf84
  v46 := Tryz.zeroValue84
  t51 := Tryz.underlying81
  a51 := Tryz.isAgg81
  z51 := Tryz.sizeOf81
  v51 := Tryz.zeroValue81
  t53 := Tryz.underlying51
  a53 := Tryz.isAgg51
  z53 := Tryz.sizeOf51
  v53 := Tryz.zeroValue51
  t171 := Tryz.underlying62
  a171 := Tryz.isAgg62
  z171 := Tryz.sizeOf62
  v171 := Tryz.zeroValue62
  t173 := Tryz.underlying66
  a173 := Tryz.isAgg66
  z173 := Tryz.sizeOf66
  v173 := Tryz.zeroValue66
  t212 := Tryz.underlying80
  a212 := Tryz.isAgg80
  z212 := Tryz.sizeOf80
  v212 := Tryz.zeroValue80
  t213 := Tryz.underlying82
  a213 := Tryz.isAgg82
  z213 := Tryz.sizeOf82
  t232 := Tryz.underlying94
  a232 := Tryz.isAgg94
  z232 := Tryz.sizeOf94
  v232 := Tryz.zeroValue94
  t233 := Tryz.underlying95
  a233 := Tryz.isAgg95
  z233 := Tryz.sizeOf95
  v233 := Tryz.zeroValue95
  g17 := by kernel_rfl
  g18 := by kernel_rfl
  g19 := by kernel_rfl
  i0 := by kernel_rfl
  i2 := by kernel_rfl
  i3 := by kernel_rfl
  i4 := by kernel_rfl
  i5 := by kernel_rfl
  i9 := by kernel_rfl
  i20 := by kernel_rfl
  i37 := by kernel_rfl
  i46 := by kernel_rfl
  i51 := by kernel_rfl
  i53 := by kernel_rfl
  i171 := by kernel_rfl
  i173 := by kernel_rfl
  i212 := by kernel_rfl
  i232 := by kernel_rfl
  i233 := by kernel_rfl
  m17 := by kernel_rfl
  m18 := by kernel_rfl
  m19 := by kernel_rfl
def Tb (w : World) : Prop := Lib.TabIs Tryz.prog w "internal/strconv.uint64pow10" .u64 Lib.pow10Tab
theorem Tb.below {w w1 : World} (h : Tb w) (hb : Below w.heap.size w w1) : Tb w1 := by
  unfold Tb Lib.TabIs World.var? at h ⊢
  rw [show Tryz.prog.globalNamed "internal/strconv.uint64pow10" = some (laysI_ren.g 17) from laysI.m17] at h ⊢
  simp only [Option.bind_some] at h ⊢
  have hlt : laysI_ren.g 17 < w.heap.size := by
    rcases Nat.lt_or_ge (laysI_ren.g 17) w.heap.size with h1 | h1
    · exact h1
    · rw [Array.getElem?_eq_none h1] at h
      cases h
  rw [hb.block _ hlt]
  exact h
theorem fmt_calls (n : Int) (w : World) (h0 : -9223372036854775808 ≤ n) (h1 : n ≤ 9223372036854775807) (htab : Tb w) :
    Calls Tryz.prog 33 #[.int .i64 n, .int .i64 10] w fun e w' => e = .returned (.string ⟨(Lib.itoa n).toArray⟩) ∧ Below w.heap.size w w' :=
  (Any.strconv_FormatInt_10 laysI n h0 h1 w htab).mono fun e w' h => ⟨h.1, by obtain ⟨k, os, rfl⟩ := h.2; exact ⟨rfl, rfl, rfl, by show w.heap.size ≤ (w.heap ++ os).size; rw [Array.size_append]; omega, fun j hj => by show (w.heap ++ os)[j]? = _; exact Array.getElem?_append_left hj⟩⟩
theorem tb1 {w W : World} (h : Aside0 (Tb w)) (hb : Aside0 (Below w.heap.size w W)) : Tb W := h.out.below hb.out
theorem tb2 {w W W1 : World} (h : Aside0 (Tb w)) (hb : Aside0 (Below w.heap.size w W)) (hw : Aside0 (Below W.heap.size W W1)) : Tb W1 := (h.out.below hb.out).below hw.out
theorem tb3 {w W W1 : World} (h : Aside0 (Tb w)) (hb : Aside0 (Below w.heap.size w W)) (hw : Aside0 (Below W.heap.size W W1)) : Tb W1.drew := ((h.out.below hb.out).below hw.out).below (below_drew (Below.refl _ _))
end Go.Proofs.YtlibjgmnookakaaGreatDoor.FI
namespace Go.Proofs.YtlibjgmnookakaaGreatDoor.SSpanSays
open Go.RowKit Go.Proofs.YtlibjgmnookakaaGreatDoor.Wd.PrintWords Go.Proofs.YtlibjgmnookakaaGreatDoor.Wd.PrintLast Go.Proofs.YtlibjgmnookakaaGreatDoor.Wd.PrintMore
attribute [local go_sem] max2_int min2_int max_two min_two max_three min_three max_four min_four
attribute [local go_sem] max2_int min2_int max_two min_two max_three min_three max_four min_four
attribute [local go_sem] max2_int min2_int max_two min_two max_three min_three max_four min_four
theorem info25 : (Tryz.prog.info? 25).map (fun i => (i.zero, i.size, i.bytes)) = some (some (.agg #[(.int .i64 0), (.int .i64 0), (.int .i64 0), (.int .i64 0), (.int .i64 0), (.bool false), (.bool false)]), 7, 48) := by kernel_rfl
structure S23 where
 f0 : Int
 f1 : Int
def z23 : S23 := ⟨(0 : Int), (0 : Int)⟩
def k23 : Kd S23 := Kd.iso (Kd.pair (Kd.int .i64) (Kd.int .i64)) (fun x : S23 => (x.f0, x.f1))
theorem k23_open {w : World} {x : S23} {cs : List Value} (h : k23.K w x cs) : cs = [.int .i64 x.f0, .int .i64 x.f1] := by
 obtain ⟨_, _, rfl, rfl, rfl⟩ := h
 exact rfl
theorem k23_mkM (w : World) (base : Nat) (ok : Nat → Prop) (x : S23)  : k23.M w base ok x [.int .i64 x.f0, .int .i64 x.f1] := ⟨[.int .i64 x.f0], [.int .i64 x.f1], rfl, rfl, rfl⟩
structure S25 where
 f0 : S23
 f1 : S23
 f2 : Int
 f3 : Bool
 f4 : Bool
def z25 : S25 := ⟨z23, z23, (0 : Int), false, false⟩
def k25 : Kd S25 := Kd.iso (Kd.pair k23 (Kd.pair k23 (Kd.pair (Kd.int .i64) (Kd.pair Kd.bool Kd.bool)))) (fun x : S25 => (x.f0, x.f1, x.f2, x.f3, x.f4))
theorem k25_open {w : World} {x : S25} {cs : List Value} (h : k25.K w x cs) : cs = [.int .i64 x.f0.f0, .int .i64 x.f0.f1, .int .i64 x.f1.f0, .int .i64 x.f1.f1, .int .i64 x.f2, .bool x.f3, .bool x.f4] := by
 obtain ⟨_, _, rfl, s0, ⟨_, _, rfl, s2, ⟨_, _, rfl, rfl, ⟨_, _, rfl, rfl, rfl⟩⟩⟩⟩ := h
 obtain rfl := k23_open s0
 obtain rfl := k23_open s2
 exact rfl
theorem k25_mkM (w : World) (base : Nat) (ok : Nat → Prop) (x : S25)  : k25.M w base ok x [.int .i64 x.f0.f0, .int .i64 x.f0.f1, .int .i64 x.f1.f0, .int .i64 x.f1.f1, .int .i64 x.f2, .bool x.f3, .bool x.f4] := ⟨[.int .i64 x.f0.f0, .int .i64 x.f0.f1], [.int .i64 x.f1.f0, .int .i64 x.f1.f1, .int .i64 x.f2, .bool x.f3, .bool x.f4], rfl, (k23_mkM w base ok x.f0 ), ⟨[.int .i64 x.f1.f0, .int .i64 x.f1.f1], [.int .i64 x.f2, .bool x.f3, .bool x.f4], rfl, (k23_mkM w base ok x.f1 ), ⟨[.int .i64 x.f2], [.bool x.f3, .bool x.f4], rfl, rfl, ⟨[.bool x.f3], [.bool x.f4], rfl, rfl, rfl⟩⟩⟩⟩
def rd_T25 (xs : List S25) (i : Int) : S25 := xs.getD i.toNat z25
theorem at_T25 {w : World} {A : Option Addr} {n : Nat} {xs : List S25} (h : Kd.C k25 w A n xs) (i : Int) (h0 : 0 ≤ i) (h1 : i < n) : ∃ ad , A = some ad ∧ w.cell? (ad.add (i.toNat * 7)) = some (.int .i64 (rd_T25 xs i).f0.f0) ∧ w.cell? ⟨(ad.add (i.toNat * 7)).block, (ad.add (i.toNat * 7)).off + 1, none⟩ = some (.int .i64 (rd_T25 xs i).f0.f1) ∧ w.cell? ⟨(ad.add (i.toNat * 7)).block, (ad.add (i.toNat * 7)).off + 2, none⟩ = some (.int .i64 (rd_T25 xs i).f1.f0) ∧ w.cell? ⟨(ad.add (i.toNat * 7)).block, (ad.add (i.toNat * 7)).off + 3, none⟩ = some (.int .i64 (rd_T25 xs i).f1.f1) ∧ w.cell? ⟨(ad.add (i.toNat * 7)).block, (ad.add (i.toNat * 7)).off + 4, none⟩ = some (.int .i64 (rd_T25 xs i).f2) ∧ w.cell? ⟨(ad.add (i.toNat * 7)).block, (ad.add (i.toNat * 7)).off + 5, none⟩ = some (.bool (rd_T25 xs i).f3) ∧ w.cell? ⟨(ad.add (i.toNat * 7)).block, (ad.add (i.toNat * 7)).off + 6, none⟩ = some (.bool (rd_T25 xs i).f4) := by
 obtain ⟨ad, c, e, _, hK, hc0⟩ := Kd.C_get h z25 i h0 h1
 have hc : ∀ j u, c[j]? = some u → w.cell? (ad.add (i.toNat * 7 + j)) = some u := hc0
 obtain rfl := k25_open hK
 exact ⟨ad, e, hc 0 _ rfl, by rw [← add_field _ _ 1 (by omega)]; exact hc 1 _ rfl, by rw [← add_field _ _ 2 (by omega)]; exact hc 2 _ rfl, by rw [← add_field _ _ 3 (by omega)]; exact hc 3 _ rfl, by rw [← add_field _ _ 4 (by omega)]; exact hc 4 _ rfl, by rw [← add_field _ _ 5 (by omega)]; exact hc 5 _ rfl, by rw [← add_field _ _ 6 (by omega)]; exact hc 6 _ rfl⟩
theorem eqA23 (d : Nat) (w : World) (x0 y0 : Int) (x1 y1 : Int) :
  (Op.equalIn (d + 2) 23 (.agg #[.int .i64 x0, .int .i64 x1]) (.agg #[.int .i64 y0, .int .i64 y1])).run Tryz.prog w = .ok (x0 == y0 && (x1 == y1)) w := by
 refine eqA_of Tryz.underlying23 (by kernel_rfl) ?_
 refine eqf_cons (by rfl) (by go_simp; rfl) (by go_simp; rfl) (by go_simp) ?_
 exact eqf_last (by rfl) (by go_simp; rfl) (by go_simp; rfl) (by go_simp)
theorem eqA25 (d : Nat) (w : World) (x0 y0 : Int) (x1 y1 : Int) (x2 y2 : Int) (x3 y3 : Int) (x4 y4 : Int) (x5 y5 : Bool) (x6 y6 : Bool) :
  (Op.equalIn (d + 3) 25 (.agg #[.int .i64 x0, .int .i64 x1, .int .i64 x2, .int .i64 x3, .int .i64 x4, .bool x5, .bool x6]) (.agg #[.int .i64 y0, .int .i64 y1, .int .i64 y2, .int .i64 y3, .int .i64 y4, .bool y5, .bool y6])).run Tryz.prog w = .ok ((x0 == y0 && (x1 == y1)) && ((x2 == y2 && (x3 == y3)) && (x4 == y4 && (x5 == y5 && (x6 == y6))))) w := by
 refine eqA_of Tryz.underlying25 (by kernel_rfl) ?_
 refine eqf_cons (by rfl) (by go_simp) (by go_simp) (eqA23 (d + 0) w _ _ _ _) ?_
 refine eqf_cons (by rfl) (by go_simp) (by go_simp) (eqA23 (d + 0) w _ _ _ _) ?_
 refine eqf_cons (by rfl) (by go_simp; rfl) (by go_simp; rfl) (by go_simp) ?_
 refine eqf_cons (by rfl) (by go_simp; rfl) (by go_simp; rfl) (by go_simp) ?_
 exact eqf_last (by rfl) (by go_simp; rfl) (by go_simp; rfl) (by go_simp)
end Go.Proofs.YtlibjgmnookakaaGreatDoor.SSpanSays
namespace Go.Proofs.YtlibjgmnookakaaGreatDoor.SSpanSays
open Go.RowKit Go.Proofs.YtlibjgmnookakaaGreatDoor.Wd.PrintWords Go.Proofs.YtlibjgmnookakaaGreatDoor.Wd.PrintLast Go.Proofs.YtlibjgmnookakaaGreatDoor.Wd.PrintMore
attribute [local go_sem] max2_int min2_int max_two min_two max_three min_three max_four min_four
attribute [local go_sem] max2_int min2_int max_two min_two max_three min_three max_four min_four
attribute [local go_sem] max2_int min2_int max_two min_two max_three min_three max_four min_four
attribute [local go_sem high] eqA23
attribute [local go_sem high] eqA25
def ratio_divisor.l0 : Nat → Int → Int → Option (Int)
 | 0, _, _ => none
 | k + 1, x0, x1 => if x1 = 0 then (some x0) else (ratio_divisor.l0 k x1 (Int.tmod x0 x1))
def ratio_divisor.f (k : Nat) (a0 : Int) (a1 : Int) : Option (Int) := ratio_divisor.l0 k a0 a1
theorem ratio_divisor.mono_l : ∀ k, (∀ y0 y1, LeO (ratio_divisor.l0 k y0 y1) (ratio_divisor.l0 (k + 1) y0 y1))
 | 0 => fun _ _ r h => by simp [ratio_divisor.l0] at h
 | k + 1 => by
  have ih0 := ratio_divisor.mono_l k
  ·
   intro y0 y1
   unfold ratio_divisor.l0
   repeat' first
   | (with_reducible exact ih0 _ _)
   | (with_reducible exact LeO.refl _)
   | (with_reducible exact LeO.none _)
   | (with_reducible refine LeO.ite ?_ ?_)
   | (with_reducible refine LeO.bind ?_ (fun _ => ?_))
   | exact ih0 _ _
   | exact LeO.none _
   | refine LeO.ite ?_ ?_
   | refine LeO.bind ?_ (fun _ => ?_)
theorem ratio_divisor.mono : ∀ a0 a1 k, LeO (ratio_divisor.f k a0 a1) (ratio_divisor.f (k + 1) a0 a1) := by
 intro a0 a1 k
 have ih0 := ratio_divisor.mono_l k
 unfold ratio_divisor.f
 repeat' first
   | (with_reducible exact ih0 _ _)
   | (with_reducible exact LeO.refl _)
   | (with_reducible exact LeO.none _)
   | (with_reducible refine LeO.ite ?_ ?_)
   | (with_reducible refine LeO.bind ?_ (fun _ => ?_))
   | exact ih0 _ _
   | exact LeO.none _
   | refine LeO.ite ?_ ?_
   | refine LeO.bind ?_ (fun _ => ?_)
set_option maxHeartbeats 8000000 in
set_option maxRecDepth 100000 in
theorem ratio_divisor.calls (k : Nat) (a0 : Int) (a1 : Int) (r : Int) (w : World) (h : ratio_divisor.f k a0 a1 = some r) :
  Calls Tryz.prog 49 #[.int .u64 a0, .int .u64 a1] w fun e w' => e = .returned (.int .u64 r) ∧ Drawn0 w w' := by
 have H : (ratio_divisor.l0 k a0 a1) = some r := h; clear h; have H' := Aside0.mk H; clear H; go_enter Tryz.func49, Tryz.ntmps49; go_wp2; repeat (go_quiet (fail); try go_wp2)
 go_loopg [0, 1] k (fun kq v0 v1 w' => ∃ (x0_1 : Int) (x1_1 : Int), v0 = .int .u64 x0_1 ∧ v1 = .int .u64 x1_1 ∧ Aside0 (ratio_divisor.l0 kq x0_1 x1_1 = some r) ∧ Aside0 (kq ≤ k) ∧ Drawn0 w w')
 case atStart => exact ⟨(a0), (a1), (by first | rfl | (simp; done) | (simp [*]; done)), (by first | rfl | (simp; done) | (simp [*]; done)), H', ⟨Nat.le_refl _⟩, by repeat (first | exact Drawn0.refl _ | apply Drawn0.step)⟩
 case round =>
  clear H'; (try clear p2); obtain ⟨x0_1, x1_1, rfl, rfl, HA, HK1, ⟨m1, rfl⟩⟩ := hrel; cases gk with
  | zero => exact absurd HA.out (by simp [ratio_divisor.l0])
  | succ k1 =>
   have H := HA.out; clear HA; simp only [ratio_divisor.l0] at H; by_cases c3 : x1_1 = 0
   · rw [if_pos c3] at H; have c3b0 : (x1_1 == 0) = true := beq_iff_eq.mpr c3; have c3b1 : (x1_1 != 0) = false := bne_eq_false_iff_eq.mpr c3; clear c3; obtain rfl := Option.some.inj H; go_wp2; (repeat (go_quiet (fail); try go_wp2)); go_ret; exact ⟨by first | rfl | (simp; done) | (simp [*]; done), by repeat (first | exact Drawn0.refl _ | apply Drawn0.step)⟩
   ·
    rw [if_neg c3] at H; have c3b0 : (x1_1 == 0) = false := beq_eq_false_iff_ne.mpr c3; have c3b1 : (x1_1 != 0) = true := bne_iff_ne.mpr c3; have H' := Aside0.mk H; clear H; go_wp2; (repeat (go_quiet (fail); try go_wp2)); go_roundg k1
    case measure => have := HK1.out; omega
    case rel => exact ⟨(x1_1), (Int.tmod x0_1 x1_1), (by first | rfl | (simp; done) | (simp [*]; done)), (by first | rfl | (simp; done) | (simp [*]; done)), H', ⟨by have := HK1.out; omega⟩, by repeat (first | exact Drawn0.refl _ | apply Drawn0.step)⟩
def ratio_size.f (a0 : Int) : Option (Int) := if a0 < 0 then (some (IntKind.u64.wrap (-(IntKind.u64.wrap (a0))))) else (some (IntKind.u64.wrap (a0)))
set_option maxHeartbeats 8000000 in
set_option maxRecDepth 100000 in
theorem ratio_size.calls (a0 : Int) (r : Int) (w : World) (h : ratio_size.f a0 = some r) :
  Calls Tryz.prog 50 #[.int .i64 a0] w fun e w' => e = .returned (.int .u64 r) ∧ Drawn0 w w' := by
 have H : (if a0 < 0 then (some (IntKind.u64.wrap (-(IntKind.u64.wrap (a0))))) else (some (IntKind.u64.wrap (a0)))) = some r := h; clear h; by_cases c2 : a0 < 0
 · rw [if_pos c2] at H; have c2b0 : decide (a0 < 0) = true := decide_eq_true c2; clear c2; obtain rfl := Option.some.inj H; go_enter Tryz.func50, Tryz.ntmps50; go_wp2; go_ret; exact ⟨by first | rfl | (simp; done) | (simp [*]; done), by repeat (first | exact Drawn0.refl _ | apply Drawn0.step)⟩
 · rw [if_neg c2] at H; have c2b0 : decide (a0 < 0) = false := decide_eq_false c2; clear c2; obtain rfl := Option.some.inj H; go_enter Tryz.func50, Tryz.ntmps50; go_wp2; go_ret; exact ⟨by first | rfl | (simp; done) | (simp [*]; done), by repeat (first | exact Drawn0.refl _ | apply Drawn0.step)⟩
def ratio_Is.f (k : Nat) (a0_0 : Int) (a0_1 : Int) : Option (Bool) := if a0_1 ≥ 1 then (if a0_1 ≤ 1073741824 then (if a0_0 ≥ (-1073741824) then (if a0_0 ≤ 1073741824 then ((ratio_size.f a0_0).bind fun t102 => ((ratio_size.f a0_1).bind fun t103 => ((ratio_divisor.f k t102 t103).bind fun t104 => (some (t104 == 1))))) else (some false)) else (some false)) else (some false)) else (some false)
theorem ratio_Is.mono : ∀ a0 a1 k, LeO (ratio_Is.f k a0 a1) (ratio_Is.f (k + 1) a0 a1) := by
 intro a0 a1 k
 unfold ratio_Is.f
 repeat' first
   | (with_reducible exact ratio_divisor.mono _ _ _)
   | (with_reducible exact LeO.refl _)
   | (with_reducible exact LeO.none _)
   | (with_reducible refine LeO.ite ?_ ?_)
   | (with_reducible refine LeO.bind ?_ (fun _ => ?_))
   | exact ratio_divisor.mono _ _ _
   | exact LeO.none _
   | refine LeO.ite ?_ ?_
   | refine LeO.bind ?_ (fun _ => ?_)
set_option maxHeartbeats 8000000 in
set_option maxRecDepth 100000 in
theorem ratio_Is.calls (k : Nat) (a0_0 : Int) (a0_1 : Int) (r : Bool) (w : World) (h : ratio_Is.f k a0_0 a0_1 = some r) :
  Calls Tryz.prog 24 #[.agg #[.int .i64 a0_0, .int .i64 a0_1]] w fun e w' => e = .returned (.bool r) ∧ Below w.heap.size w w' := by
 have hu23 := Tryz.underlying23; have HB := Aside0.mk (Below.refl w.heap.size w); have H : (if a0_1 ≥ 1 then (if a0_1 ≤ 1073741824 then (if a0_0 ≥ (-1073741824) then (if a0_0 ≤ 1073741824 then ((ratio_size.f a0_0).bind fun t102 => ((ratio_size.f a0_1).bind fun t103 => ((ratio_divisor.f k t102 t103).bind fun t104 => (some (t104 == 1))))) else (some false)) else (some false)) else (some false)) else (some false)) = some r := h; clear h; by_cases c2 : a0_1 ≥ 1
 ·
  rw [if_pos c2] at H; have c2b0 : decide (1 ≤ a0_1) = true := decide_eq_true c2; clear c2; by_cases c3 : a0_1 ≤ 1073741824
  ·
   rw [if_pos c3] at H; have c3b0 : decide (a0_1 ≤ 1073741824) = true := decide_eq_true c3; clear c3; by_cases c4 : a0_0 ≥ (-1073741824)
   ·
    rw [if_pos c4] at H; have c4b0 : decide ((-1073741824) ≤ a0_0) = true := decide_eq_true c4; clear c4; by_cases c5 : a0_0 ≤ 1073741824
    · rw [if_pos c5] at H; have c5b0 : decide (a0_0 ≤ 1073741824) = true := decide_eq_true c5; clear c5; replace H := Option.bind_eq_some_iff.mp H; obtain ⟨t102, A60, H⟩ := H; (try dsimp only at H); have A6 := Aside0.mk A60; clear A60; replace H := Option.bind_eq_some_iff.mp H; obtain ⟨t103, A70, H⟩ := H; (try dsimp only at H); have A7 := Aside0.mk A70; clear A70; replace H := Option.bind_eq_some_iff.mp H; obtain ⟨t104, A80, H⟩ := H; (try dsimp only at H); have A8 := Aside0.mk A80; clear A80; obtain rfl := Option.some.inj H; go_enter Tryz.func24, Tryz.ntmps24; go_wp2_with (first | ((with_reducible refine gate_dst (N := 1) rfl ?_); refine bx_ 1 #[.int .i64 a0_0, .int .i64 a0_1] 23 ?_; intro gb101 hg w9 BK101 hb; have GE101 := hz_ hg HB; replace HB := hs HB hb; clear hb hg; obtain ⟨hcz10_0, hcz10_1⟩ := bc2 BK101.out; obtain ⟨hfz10_0, hfz10_1⟩ := bf2 BK101.out) | (go_at_call 50; (with_reducible refine (ratio_size.calls a0_0 t102 _ A6.out).mono ?_); rintro e w' ⟨rfl, ⟨nd, rfl⟩⟩; (try first | exact ⟨rfl, _, World.drewN_drewN _ _ _⟩ | exact ⟨rfl, _, Eq.trans (World.drewN_drewN _ _ _) (congrArg (World.drewN _) (Nat.add_assoc _ _ _))⟩)) | (go_at_call 50; (with_reducible refine (ratio_size.calls a0_1 t103 _ A7.out).mono ?_); rintro e w' ⟨rfl, ⟨nd, rfl⟩⟩; (try first | exact ⟨rfl, _, World.drewN_drewN _ _ _⟩ | exact ⟨rfl, _, Eq.trans (World.drewN_drewN _ _ _) (congrArg (World.drewN _) (Nat.add_assoc _ _ _))⟩)) | (go_at_call 49; (with_reducible refine (ratio_divisor.calls k t102 t103 t104 _ A8.out).mono ?_); rintro e w' ⟨rfl, ⟨nd, rfl⟩⟩; (try first | exact ⟨rfl, _, World.drewN_drewN _ _ _⟩ | exact ⟨rfl, _, Eq.trans (World.drewN_drewN _ _ _) (congrArg (World.drewN _) (Nat.add_assoc _ _ _))⟩))); (repeat (go_quiet (first | ((with_reducible refine gate_dst (N := 1) rfl ?_); refine bx_ 1 #[.int .i64 a0_0, .int .i64 a0_1] 23 ?_; intro gb101 hg w9 BK101 hb; have GE101 := hz_ hg HB; replace HB := hs HB hb; clear hb hg; obtain ⟨hcz10_0, hcz10_1⟩ := bc2 BK101.out; obtain ⟨hfz10_0, hfz10_1⟩ := bf2 BK101.out) | (go_at_call 50; (with_reducible refine (ratio_size.calls a0_0 t102 _ A6.out).mono ?_); rintro e w' ⟨rfl, ⟨nd, rfl⟩⟩; (try first | exact ⟨rfl, _, World.drewN_drewN _ _ _⟩ | exact ⟨rfl, _, Eq.trans (World.drewN_drewN _ _ _) (congrArg (World.drewN _) (Nat.add_assoc _ _ _))⟩)) | (go_at_call 50; (with_reducible refine (ratio_size.calls a0_1 t103 _ A7.out).mono ?_); rintro e w' ⟨rfl, ⟨nd, rfl⟩⟩; (try first | exact ⟨rfl, _, World.drewN_drewN _ _ _⟩ | exact ⟨rfl, _, Eq.trans (World.drewN_drewN _ _ _) (congrArg (World.drewN _) (Nat.add_assoc _ _ _))⟩)) | (go_at_call 49; (with_reducible refine (ratio_divisor.calls k t102 t103 t104 _ A8.out).mono ?_); rintro e w' ⟨rfl, ⟨nd, rfl⟩⟩; (try first | exact ⟨rfl, _, World.drewN_drewN _ _ _⟩ | exact ⟨rfl, _, Eq.trans (World.drewN_drewN _ _ _) (congrArg (World.drewN _) (Nat.add_assoc _ _ _))⟩))); try go_wp2_with (first | ((with_reducible refine gate_dst (N := 1) rfl ?_); refine bx_ 1 #[.int .i64 a0_0, .int .i64 a0_1] 23 ?_; intro gb101 hg w9 BK101 hb; have GE101 := hz_ hg HB; replace HB := hs HB hb; clear hb hg; obtain ⟨hcz10_0, hcz10_1⟩ := bc2 BK101.out; obtain ⟨hfz10_0, hfz10_1⟩ := bf2 BK101.out) | (go_at_call 50; (with_reducible refine (ratio_size.calls a0_0 t102 _ A6.out).mono ?_); rintro e w' ⟨rfl, ⟨nd, rfl⟩⟩; (try first | exact ⟨rfl, _, World.drewN_drewN _ _ _⟩ | exact ⟨rfl, _, Eq.trans (World.drewN_drewN _ _ _) (congrArg (World.drewN _) (Nat.add_assoc _ _ _))⟩)) | (go_at_call 50; (with_reducible refine (ratio_size.calls a0_1 t103 _ A7.out).mono ?_); rintro e w' ⟨rfl, ⟨nd, rfl⟩⟩; (try first | exact ⟨rfl, _, World.drewN_drewN _ _ _⟩ | exact ⟨rfl, _, Eq.trans (World.drewN_drewN _ _ _) (congrArg (World.drewN _) (Nat.add_assoc _ _ _))⟩)) | (go_at_call 49; (with_reducible refine (ratio_divisor.calls k t102 t103 t104 _ A8.out).mono ?_); rintro e w' ⟨rfl, ⟨nd, rfl⟩⟩; (try first | exact ⟨rfl, _, World.drewN_drewN _ _ _⟩ | exact ⟨rfl, _, Eq.trans (World.drewN_drewN _ _ _) (congrArg (World.drewN _) (Nat.add_assoc _ _ _))⟩))))); go_ret; exact en_
    · rw [if_neg c5] at H; have c5b0 : decide (a0_0 ≤ 1073741824) = false := decide_eq_false c5; clear c5; obtain rfl := Option.some.inj H; go_enter Tryz.func24, Tryz.ntmps24; go_wp2_with (first | ((with_reducible refine gate_dst (N := 1) rfl ?_); refine bx_ 1 #[.int .i64 a0_0, .int .i64 a0_1] 23 ?_; intro gb101 hg w11 BK101 hb; have GE101 := hz_ hg HB; replace HB := hs HB hb; clear hb hg; obtain ⟨hcz12_0, hcz12_1⟩ := bc2 BK101.out; obtain ⟨hfz12_0, hfz12_1⟩ := bf2 BK101.out)); (repeat (go_quiet (first | ((with_reducible refine gate_dst (N := 1) rfl ?_); refine bx_ 1 #[.int .i64 a0_0, .int .i64 a0_1] 23 ?_; intro gb101 hg w11 BK101 hb; have GE101 := hz_ hg HB; replace HB := hs HB hb; clear hb hg; obtain ⟨hcz12_0, hcz12_1⟩ := bc2 BK101.out; obtain ⟨hfz12_0, hfz12_1⟩ := bf2 BK101.out)); try go_wp2_with (first | ((with_reducible refine gate_dst (N := 1) rfl ?_); refine bx_ 1 #[.int .i64 a0_0, .int .i64 a0_1] 23 ?_; intro gb101 hg w11 BK101 hb; have GE101 := hz_ hg HB; replace HB := hs HB hb; clear hb hg; obtain ⟨hcz12_0, hcz12_1⟩ := bc2 BK101.out; obtain ⟨hfz12_0, hfz12_1⟩ := bf2 BK101.out)))); go_ret; exact en_
   · rw [if_neg c4] at H; have c4b0 : decide ((-1073741824) ≤ a0_0) = false := decide_eq_false c4; clear c4; obtain rfl := Option.some.inj H; go_enter Tryz.func24, Tryz.ntmps24; go_wp2_with (first | ((with_reducible refine gate_dst (N := 1) rfl ?_); refine bx_ 1 #[.int .i64 a0_0, .int .i64 a0_1] 23 ?_; intro gb101 hg w13 BK101 hb; have GE101 := hz_ hg HB; replace HB := hs HB hb; clear hb hg; obtain ⟨hcz14_0, hcz14_1⟩ := bc2 BK101.out; obtain ⟨hfz14_0, hfz14_1⟩ := bf2 BK101.out)); (repeat (go_quiet (first | ((with_reducible refine gate_dst (N := 1) rfl ?_); refine bx_ 1 #[.int .i64 a0_0, .int .i64 a0_1] 23 ?_; intro gb101 hg w13 BK101 hb; have GE101 := hz_ hg HB; replace HB := hs HB hb; clear hb hg; obtain ⟨hcz14_0, hcz14_1⟩ := bc2 BK101.out; obtain ⟨hfz14_0, hfz14_1⟩ := bf2 BK101.out)); try go_wp2_with (first | ((with_reducible refine gate_dst (N := 1) rfl ?_); refine bx_ 1 #[.int .i64 a0_0, .int .i64 a0_1] 23 ?_; intro gb101 hg w13 BK101 hb; have GE101 := hz_ hg HB; replace HB := hs HB hb; clear hb hg; obtain ⟨hcz14_0, hcz14_1⟩ := bc2 BK101.out; obtain ⟨hfz14_0, hfz14_1⟩ := bf2 BK101.out)))); go_ret; exact en_
  · rw [if_neg c3] at H; have c3b0 : decide (a0_1 ≤ 1073741824) = false := decide_eq_false c3; clear c3; obtain rfl := Option.some.inj H; go_enter Tryz.func24, Tryz.ntmps24; go_wp2_with (first | ((with_reducible refine gate_dst (N := 1) rfl ?_); refine bx_ 1 #[.int .i64 a0_0, .int .i64 a0_1] 23 ?_; intro gb101 hg w15 BK101 hb; have GE101 := hz_ hg HB; replace HB := hs HB hb; clear hb hg; obtain ⟨hcz16_0, hcz16_1⟩ := bc2 BK101.out; obtain ⟨hfz16_0, hfz16_1⟩ := bf2 BK101.out)); (repeat (go_quiet (first | ((with_reducible refine gate_dst (N := 1) rfl ?_); refine bx_ 1 #[.int .i64 a0_0, .int .i64 a0_1] 23 ?_; intro gb101 hg w15 BK101 hb; have GE101 := hz_ hg HB; replace HB := hs HB hb; clear hb hg; obtain ⟨hcz16_0, hcz16_1⟩ := bc2 BK101.out; obtain ⟨hfz16_0, hfz16_1⟩ := bf2 BK101.out)); try go_wp2_with (first | ((with_reducible refine gate_dst (N := 1) rfl ?_); refine bx_ 1 #[.int .i64 a0_0, .int .i64 a0_1] 23 ?_; intro gb101 hg w15 BK101 hb; have GE101 := hz_ hg HB; replace HB := hs HB hb; clear hb hg; obtain ⟨hcz16_0, hcz16_1⟩ := bc2 BK101.out; obtain ⟨hfz16_0, hfz16_1⟩ := bf2 BK101.out)))); go_ret; exact en_
 · rw [if_neg c2] at H; have c2b0 : decide (1 ≤ a0_1) = false := decide_eq_false c2; clear c2; obtain rfl := Option.some.inj H; go_enter Tryz.func24, Tryz.ntmps24; go_wp2_with (first | ((with_reducible refine gate_dst (N := 1) rfl ?_); refine bx_ 1 #[.int .i64 a0_0, .int .i64 a0_1] 23 ?_; intro gb101 hg w17 BK101 hb; have GE101 := hz_ hg HB; replace HB := hs HB hb; clear hb hg; obtain ⟨hcz18_0, hcz18_1⟩ := bc2 BK101.out; obtain ⟨hfz18_0, hfz18_1⟩ := bf2 BK101.out)); (repeat (go_quiet (first | ((with_reducible refine gate_dst (N := 1) rfl ?_); refine bx_ 1 #[.int .i64 a0_0, .int .i64 a0_1] 23 ?_; intro gb101 hg w17 BK101 hb; have GE101 := hz_ hg HB; replace HB := hs HB hb; clear hb hg; obtain ⟨hcz18_0, hcz18_1⟩ := bc2 BK101.out; obtain ⟨hfz18_0, hfz18_1⟩ := bf2 BK101.out)); try go_wp2_with (first | ((with_reducible refine gate_dst (N := 1) rfl ?_); refine bx_ 1 #[.int .i64 a0_0, .int .i64 a0_1] 23 ?_; intro gb101 hg w17 BK101 hb; have GE101 := hz_ hg HB; replace HB := hs HB hb; clear hb hg; obtain ⟨hcz18_0, hcz18_1⟩ := bc2 BK101.out; obtain ⟨hfz18_0, hfz18_1⟩ := bf2 BK101.out)))); go_ret; exact en_
def ratio_Valid.f (k : Nat) (a0_0 : Int) (a0_1 : Int) : Option (Bool) := if (a0_0 == 0 && (a0_1 == 0)) = true then (some true) else ((ratio_Is.f k a0_0 a0_1).bind fun t106 => (some t106))
theorem ratio_Valid.mono : ∀ a0 a1 k, LeO (ratio_Valid.f k a0 a1) (ratio_Valid.f (k + 1) a0 a1) := by
 intro a0 a1 k
 unfold ratio_Valid.f
 repeat' first
   | (with_reducible exact ratio_Is.mono _ _ _)
   | (with_reducible exact LeO.refl _)
   | (with_reducible exact LeO.none _)
   | (with_reducible refine LeO.ite ?_ ?_)
   | (with_reducible refine LeO.bind ?_ (fun _ => ?_))
   | exact ratio_Is.mono _ _ _
   | exact LeO.none _
   | refine LeO.ite ?_ ?_
   | refine LeO.bind ?_ (fun _ => ?_)
set_option maxHeartbeats 8000000 in
set_option maxRecDepth 100000 in
theorem ratio_Valid.calls (k : Nat) (a0_0 : Int) (a0_1 : Int) (r : Bool) (w : World) (h : ratio_Valid.f k a0_0 a0_1 = some r) :
  Calls Tryz.prog 23 #[.agg #[.int .i64 a0_0, .int .i64 a0_1]] w fun e w' => e = .returned (.bool r) ∧ Below w.heap.size w w' := by
 have hu23 := Tryz.underlying23; have HB := Aside0.mk (Below.refl w.heap.size w); have H : (if (a0_0 == 0 && (a0_1 == 0)) = true then (some true) else ((ratio_Is.f k a0_0 a0_1).bind fun t106 => (some t106))) = some r := h; clear h; by_cases c2 : (a0_0 == 0 && (a0_1 == 0)) = true
 · rw [if_pos c2] at H; have c2b0 : (a0_0 == 0 && (a0_1 == 0)) = true := c2; (try (have c2b1 : decide (a0_0 = 0 && (a0_1 == 0)) = true := by simpa using c2)); (try (have c2b2 : (a0_0 == 0 && (a0_1 == 0)) = true := by simpa using c2)); clear c2; obtain rfl := Option.some.inj H; go_enter Tryz.func23, Tryz.ntmps23; go_wp2_with (first | ((with_reducible refine gate_dst (N := 1) rfl ?_); refine bx_ 1 #[.int .i64 a0_0, .int .i64 a0_1] 23 ?_; intro gb105 hg w3 BK105 hb; have GE105 := hz_ hg HB; replace HB := hs HB hb; clear hb hg; obtain ⟨hcz4_0, hcz4_1⟩ := bc2 BK105.out; obtain ⟨hfz4_0, hfz4_1⟩ := bf2 BK105.out)); go_ret; exact en_
 · rw [if_neg c2] at H; (have c2b0 : (a0_0 == 0 && (a0_1 == 0)) = false := by simpa using c2); (try (have c2b1 : decide (a0_0 = 0 && (a0_1 == 0)) = false := by simpa using c2)); (try (have c2b2 : (a0_0 == 0 && (a0_1 == 0)) = false := by simpa using c2)); (try (have c2b3 : ¬ (a0_0 = 0 && (a0_1 == 0)) := by simpa using c2)); clear c2; replace H := Option.bind_eq_some_iff.mp H; obtain ⟨t106, A50, H⟩ := H; (try dsimp only at H); have A5 := Aside0.mk A50; clear A50; obtain rfl := Option.some.inj H; go_enter Tryz.func23, Tryz.ntmps23; go_wp2_with (first | ((with_reducible refine gate_dst (N := 1) rfl ?_); refine bx_ 1 #[.int .i64 a0_0, .int .i64 a0_1] 23 ?_; intro gb105 hg w6 BK105 hb; have GE105 := hz_ hg HB; replace HB := hs HB hb; clear hb hg; obtain ⟨hcz7_0, hcz7_1⟩ := bc2 BK105.out; obtain ⟨hfz7_0, hfz7_1⟩ := bf2 BK105.out) | (go_at_call 24; (with_reducible refine (ratio_Is.calls k a0_0 a0_1 t106 _ A5.out).mono ?_); rintro e w8 ⟨rfl, hb⟩; replace BK105 := kb BK105 hb; replace HB := hb_ w hb; )); go_ret; exact en_
def ratio_sign.f (a0 : Bool) (a1 : Bool) : Option (Int) := if a0 = true then (some (-1)) else (if a1 = true then (some 1) else (some 0))
set_option maxHeartbeats 8000000 in
set_option maxRecDepth 100000 in
theorem ratio_sign.calls (a0 : Bool) (a1 : Bool) (r : Int) (w : World) (h : ratio_sign.f a0 a1 = some r) :
  Calls Tryz.prog 51 #[.bool a0, .bool a1] w fun e w' => e = .returned (.int .i64 r) ∧ Drawn0 w w' := by
 have H : (if a0 = true then (some (-1)) else (if a1 = true then (some 1) else (some 0))) = some r := h; clear h; by_cases c3 : a0 = true
 · subst c3; rw [if_pos rfl] at H; obtain rfl := Option.some.inj H; go_enter Tryz.func51, Tryz.ntmps51; go_wp2; go_ret; exact ⟨by first | rfl | (simp; done) | (simp [*]; done), by repeat (first | exact Drawn0.refl _ | apply Drawn0.step)⟩
 ·
  replace c3 := Bool.eq_false_iff.mpr c3; subst c3; rw [if_neg (show ¬ (false = true) by decide)] at H; by_cases c4 : a1 = true
  · subst c4; rw [if_pos rfl] at H; obtain rfl := Option.some.inj H; go_enter Tryz.func51, Tryz.ntmps51; go_wp2; go_ret; exact ⟨by first | rfl | (simp; done) | (simp [*]; done), by repeat (first | exact Drawn0.refl _ | apply Drawn0.step)⟩
  · replace c4 := Bool.eq_false_iff.mpr c4; subst c4; rw [if_neg (show ¬ (false = true) by decide)] at H; obtain rfl := Option.some.inj H; go_enter Tryz.func51, Tryz.ntmps51; go_wp2; go_ret; exact ⟨by first | rfl | (simp; done) | (simp [*]; done), by repeat (first | exact Drawn0.refl _ | apply Drawn0.step)⟩
def ratio_Cmp.j0 : Nat → Bool → Bool → Bool → Int → Int → Int → Int → Option (Int)
 | 0, _, _, _, _, _, _, _ => none
 | k + 1, x5, x6, x18, x108000, x108001, x109000, x109001 => if x18 = true then (if x5 = true then ((ratio_sign.f false (!x6)).bind fun t111 => (some t111)) else ((ratio_sign.f x6 false).bind fun t112 => (some t112))) else ((ratio_sign.f (decide ((wrap64 (x108000 * x109001)) < (wrap64 (x109000 * x108001)))) (decide ((wrap64 (x108000 * x109001)) > (wrap64 (x109000 * x108001))))).bind fun t113 => (some t113))
def ratio_Cmp.f (k : Nat) (a0_0 : Int) (a0_1 : Int) (a1_0 : Int) (a1_1 : Int) : Option (Int) := (ratio_Is.f k a0_0 a0_1).bind fun t109 => ((ratio_Is.f k a1_0 a1_1).bind fun t110 => (if t109 = true then (ratio_Cmp.j0 k t109 t110 (!t110) a0_0 a0_1 a1_0 a1_1) else (ratio_Cmp.j0 k t109 t110 true a0_0 a0_1 a1_0 a1_1)))
theorem ratio_Cmp.mono_l : ∀ k, (∀ y0 y1 y2 y3 y4 y5 y6, LeO (ratio_Cmp.j0 k y0 y1 y2 y3 y4 y5 y6) (ratio_Cmp.j0 (k + 1) y0 y1 y2 y3 y4 y5 y6))
 | 0 => fun _ _ _ _ _ _ _ r h => by simp [ratio_Cmp.j0] at h
 | k + 1 => by
  have ih0 := ratio_Cmp.mono_l k
  ·
   intro y0 y1 y2 y3 y4 y5 y6
   unfold ratio_Cmp.j0
   repeat' first
   | (with_reducible exact ih0 _ _ _ _ _ _ _)
   | (with_reducible exact ratio_Is.mono _ _ _)
   | (with_reducible exact LeO.refl _)
   | (with_reducible exact LeO.none _)
   | (with_reducible refine LeO.ite ?_ ?_)
   | (with_reducible refine LeO.bind ?_ (fun _ => ?_))
   | exact ih0 _ _ _ _ _ _ _
   | exact ratio_Is.mono _ _ _
   | exact LeO.none _
   | refine LeO.ite ?_ ?_
   | refine LeO.bind ?_ (fun _ => ?_)
theorem ratio_Cmp.mono : ∀ a0 a1 a2 a3 k, LeO (ratio_Cmp.f k a0 a1 a2 a3) (ratio_Cmp.f (k + 1) a0 a1 a2 a3) := by
 intro a0 a1 a2 a3 k
 have ih0 := ratio_Cmp.mono_l k
 unfold ratio_Cmp.f
 repeat' first
   | (with_reducible exact ih0 _ _ _ _ _ _ _)
   | (with_reducible exact ratio_Is.mono _ _ _)
   | (with_reducible exact LeO.refl _)
   | (with_reducible exact LeO.none _)
   | (with_reducible refine LeO.ite ?_ ?_)
   | (with_reducible refine LeO.bind ?_ (fun _ => ?_))
   | exact ih0 _ _ _ _ _ _ _
   | exact ratio_Is.mono _ _ _
   | exact LeO.none _
   | refine LeO.ite ?_ ?_
   | refine LeO.bind ?_ (fun _ => ?_)
def ratio_Cmp.T4 : Bool × List (List Nat × List Nat) := (true, [([], []), ([0], [0]), ([], []), ([2], [2]), ([1, 3], [1, 3]), ([], []), ([5], [5]), ([], []), ([7], [7]), ([6, 8], [6, 8]), ([4, 0, 1, 2, 3, 4], [4]), ([9, 10, 0, 1, 2, 3, 4, 5, 6, 7, 8, 9, 10], [9])])
def ratio_Cmp.B4 : List Nat := [0, 1, 0, 4, 15, 0, 32, 0, 128, 480, 31, 2047]
theorem ratio_Cmp.tab4 : rtab .any (opsOf Tryz.f25 4) = ratio_Cmp.T4 := by kernel_rfl
theorem ratio_Cmp.bits4 : waitsOk ratio_Cmp.T4.2 ratio_Cmp.B4 = true := by kernel_rfl
set_option maxHeartbeats 8000000 in
set_option maxRecDepth 100000 in
theorem ratio_Cmp.calls (k : Nat) (a0_0 : Int) (a0_1 : Int) (a1_0 : Int) (a1_1 : Int) (r : Int) (w : World) (h : ratio_Cmp.f k a0_0 a0_1 a1_0 a1_1 = some r) :
  Calls Tryz.prog 25 #[.agg #[.int .i64 a0_0, .int .i64 a0_1], .agg #[.int .i64 a1_0, .int .i64 a1_1]] w fun e w' => e = .returned (.int .i64 r) ∧ Below w.heap.size w w' := by
 have hu23 := Tryz.underlying23; have HB := Aside0.mk (Below.refl w.heap.size w); have H : ((ratio_Is.f k a0_0 a0_1).bind fun t109 => ((ratio_Is.f k a1_0 a1_1).bind fun t110 => (if t109 = true then (ratio_Cmp.j0 k t109 t110 (!t110) a0_0 a0_1 a1_0 a1_1) else (ratio_Cmp.j0 k t109 t110 true a0_0 a0_1 a1_0 a1_1)))) = some r := h; clear h; replace H := Option.bind_eq_some_iff.mp H; obtain ⟨t109, A30, H⟩ := H; (try dsimp only at H); have A3 := Aside0.mk A30; clear A30; replace H := Option.bind_eq_some_iff.mp H; obtain ⟨t110, A40, H⟩ := H; (try dsimp only at H); have A4 := Aside0.mk A40; clear A40; have HC5 := Aside0.mk H; clear H; go_enter Tryz.func25, Tryz.ntmps25; (try go_wp2_with (first | ((with_reducible refine gate_dst (N := 2) rfl ?_); refine bx_ 2 #[.int .i64 a0_0, .int .i64 a0_1] 23 ?_; intro gb107 hg w6 BK107 hb; have GE107 := hz_ hg HB; replace HB := hs HB hb; clear hb hg) | ((with_reducible refine gate_dst (N := 3) rfl ?_); refine bx_ 3 #[.int .i64 a1_0, .int .i64 a1_1] 23 ?_; intro gb108 hg w7 BK108 hb; have GE108 := ge_ w hg; have NB107_108 := nlk hg BK107; have NB108_107 := ngk hg BK107; replace BK107 := kb BK107 hb; replace HB := hb_ w hb; clear hb hg))); replace BK107 := kd BK107; replace BK108 := kd BK108; replace HB := Aside0.mk (below_drew1 HB.out); refine start_ (n := 6) (S := fun w' => w'.cell? ⟨gb107, 0, none⟩ = some (.int .i64 a0_0) ∧ w'.cell? ⟨gb107, 1, none⟩ = some (.int .i64 a0_1) ∧ w'.cell? ⟨gb108, 0, none⟩ = some (.int .i64 a1_0) ∧ w'.cell? ⟨gb108, 1, none⟩ = some (.int .i64 a1_1)) (ds := []) (bA 6 0) (by kernel_rfl) rfl rfl ⟨(blk_cell BK107.out 0).trans rfl, (blk_cell BK107.out 1).trans rfl, (blk_cell BK108.out 0).trans rfl, (blk_cell BK108.out 1).trans rfl⟩ (fun hHeld => ?_); generalize w7.drew = w8 at BK107 BK108 HB hHeld ⊢; have hH0 := hHeld; have HBW := hbw w8; refine take_ (i := 0) (N := some 9) (v := ?_) (a' := ?_) (bA 6 1) rfl rfl (by kernel_rfl) (fun _ _ _ h => h) (Or.inl ⟨by rfl, ?_⟩) hHeld ?_ ?_; rotate_left
 · rintro w' ⟨s0, s1, s2, s3⟩; go_simp; with_reducible rfl
 rotate_left
 · simp only [ap]; rfl
 refine take_ (i := 2) (N := some 11) (v := ?_) (a' := ?_) (bA 6 5) rfl rfl (by kernel_rfl) (fun _ _ _ h => h) (Or.inl ⟨by rfl, ?_⟩) hHeld ?_ ?_; rotate_left
 · rintro w' ⟨s0, s1, s2, s3⟩; go_simp; with_reducible rfl
 rotate_left
 · simp only [ap]; rfl
 refine one_ (i := 1) (N := some 10) (bA 6 7) rfl rfl (by kernel_rfl) (by decide) (fun K hK => ?_); refine goes_ Tryz.func24 (by kernel_rfl) rfl #[.agg #[.int .i64 a0_0, .int .i64 a0_1]] (by rfl) rfl rfl (by (try simp only [mp]); first | done | rfl | (simp only [ld]; rfl)) ?_; (with_reducible refine (ratio_Is.calls k a0_0 a0_1 t109 _ A3.out).mono ?_); rintro e w9 ⟨rfl, hb⟩; refine ⟨_, rfl, ?_⟩; replace HBW := hs HBW hb; clear hb; refine hK.out _ _ (hs4 HBW.out hH0) (fun hHeld => ?_); clear hK K; refine norm_ (a' := ?_) ?_ ?_; rotate_left
 · (show Act.put _ (some 10) _ = _); simp only [ap]; rfl
 refine one_ (i := 3) (N := some 12) (bA 6 15) rfl rfl (by kernel_rfl) (by decide) (fun K hK => ?_); refine goes_ Tryz.func24 (by kernel_rfl) rfl #[.agg #[.int .i64 a1_0, .int .i64 a1_1]] (by rfl) rfl rfl (by (try simp only [mp]); first | done | rfl | (simp only [ld]; rfl)) ?_; (with_reducible refine (ratio_Is.calls k a1_0 a1_1 t110 _ A4.out).mono ?_); rintro e w10 ⟨rfl, hb⟩; refine ⟨_, rfl, ?_⟩; replace HBW := hs HBW hb; clear hb; refine hK.out _ _ (hs4 HBW.out hH0) (fun hHeld => ?_); clear hK K; refine norm_ (a' := ?_) ?_ ?_; rotate_left
 · (show Act.put _ (some 12) _ = _); simp only [ap]; rfl
 refine pure_ (i := 4) (N := some 5) (v := ?_) (a' := ?_) (bA 6 31) rfl rfl (by kernel_rfl) (fun _ _ _ h => h) (Or.inl ⟨by rfl, ?_⟩) ?_ ?_; rotate_left
 · intro w'; go_simp; with_reducible rfl
 rotate_left
 · simp only [ap]; rfl
 refine pure_ (i := 5) (N := some 6) (v := ?_) (a' := ?_) (bA 6 63) rfl rfl (by kernel_rfl) (fun _ _ _ h => h) (Or.inl ⟨by rfl, ?_⟩) ?_ ?_; rotate_left
 · intro w'; go_simp; with_reducible rfl
 rotate_left
 · simp only [ap]; rfl
 replace BK107 := kb BK107 HBW.out; replace BK108 := kb BK108 HBW.out; replace HB := hs HB HBW.out; refine done_ (by kernel_rfl) ?_; clear HBW hH0; go_upto_region 2 with (fail)
 go_cut [18] (fun v18 wc => ∃ (kq : Nat) (x18_4 : Bool), v18 = .bool x18_4 ∧ Aside0 (ratio_Cmp.j0 kq t109 t110 x18_4 a0_0 a0_1 a1_0 a1_1 = some r) ∧ Aside0 (kq ≤ k) ∧ Aside0 (wc.heap[gb107]? = some (.cells #[.int .i64 a0_0, .int .i64 a0_1] 23 (0, 0))) ∧ Aside0 (wc.heap[gb108]? = some (.cells #[.int .i64 a1_0, .int .i64 a1_1] 23 (0, 0))) ∧ Aside0 (Below w.heap.size w wc))
 case first =>
  have H := HC5.out; clear HC5; by_cases c11 : t109 = true
  ·
   subst c11; rw [if_pos rfl] at H; have H' := Aside0.mk H; clear H; go_wp2; go_meet
   case rel => exact ⟨_, (!t110), (by first | rfl | (simp; done) | (simp [*]; done)), H', ⟨by first | omega | exact Nat.le_refl _⟩, ⟨bk BK107.out⟩, ⟨bk BK108.out⟩, ab2_⟩
  ·
   replace c11 := Bool.eq_false_iff.mpr c11; subst c11; rw [if_neg (show ¬ (false = true) by decide)] at H; have H' := Aside0.mk H; clear H; go_wp2; go_meet
   case rel => exact ⟨_, (true), (by first | rfl | (simp; done) | (simp [*]; done)), H', ⟨by first | omega | exact Nat.le_refl _⟩, ⟨bk BK107.out⟩, ⟨bk BK108.out⟩, ab2_⟩
 case rest =>
  clear HC5; obtain ⟨kq, x18_4, rfl, HA, HJ4, BK107, BK108, HB⟩ := hcut; cases kq with
  | zero => exact absurd HA.out (by simp [ratio_Cmp.j0])
  | succ kj4 =>
   have H := HA.out; clear HA; simp only [ratio_Cmp.j0] at H; by_cases c12 : x18_4 = true
   ·
    subst c12; rw [if_pos rfl] at H; by_cases c13 : t109 = true
    · subst c13; rw [if_pos rfl] at H; replace H := Option.bind_eq_some_iff.mp H; obtain ⟨t111, A140, H⟩ := H; (try dsimp only at H); have A14 := Aside0.mk A140; clear A140; obtain rfl := Option.some.inj H; go_wp2_with (first | ((with_reducible refine gate_callee (f := 51) rfl ?_); refine goesL_ (some 29) rfl rfl Tryz.func51 (by kernel_rfl) rfl #[.bool false, .bool (!t110)] rfl (by (try simp only [mp]); first | done | rfl | (simp only [ld]; rfl)) ?_; (with_reducible refine (ratio_sign.calls false (!t110) t111 _ A14.out).mono ?_); rintro e w' ⟨rfl, ⟨nd, rfl⟩⟩; refine ⟨_, rfl, ?_⟩)); go_ret; exact en_
    · replace c13 := Bool.eq_false_iff.mpr c13; subst c13; rw [if_neg (show ¬ (false = true) by decide)] at H; replace H := Option.bind_eq_some_iff.mp H; obtain ⟨t112, A150, H⟩ := H; (try dsimp only at H); have A15 := Aside0.mk A150; clear A150; obtain rfl := Option.some.inj H; go_wp2_with (first | ((with_reducible refine gate_callee (f := 51) rfl ?_); refine goesL_ (some 29) rfl rfl Tryz.func51 (by kernel_rfl) rfl #[.bool t110, .bool false] rfl (by (try simp only [mp]); first | done | rfl | (simp only [ld]; rfl)) ?_; (with_reducible refine (ratio_sign.calls t110 false t112 _ A15.out).mono ?_); rintro e w' ⟨rfl, ⟨nd, rfl⟩⟩; refine ⟨_, rfl, ?_⟩)); go_ret; exact en_
   ·
    replace c12 := Bool.eq_false_iff.mpr c12; subst c12; rw [if_neg (show ¬ (false = true) by decide)] at H; replace H := Option.bind_eq_some_iff.mp H; obtain ⟨t113, A160, H⟩ := H; (try dsimp only at H); have A16 := Aside0.mk A160; clear A160; obtain rfl := Option.some.inj H; (try go_wp2); replace BK107 := kd BK107; replace BK108 := kd BK108; replace HB := Aside0.mk (below_drew1 HB.out); refine start_ (n := 12) (S := fun w' => w'.cell? ⟨gb107, 0, none⟩ = some (.int .i64 a0_0) ∧ w'.cell? ⟨gb107, 1, none⟩ = some (.int .i64 a0_1) ∧ w'.cell? ⟨gb108, 0, none⟩ = some (.int .i64 a1_0) ∧ w'.cell? ⟨gb108, 1, none⟩ = some (.int .i64 a1_1)) (ds := []) (bA 12 0) (by kernel_rfl) rfl rfl ⟨(blk_cell BK107.out 0).trans rfl, (blk_cell BK107.out 1).trans rfl, (blk_cell BK108.out 0).trans rfl, (blk_cell BK108.out 1).trans rfl⟩ (fun hHeld => ?_); refine with_tabW ratio_Cmp.tab4 ratio_Cmp.bits4 (fun HT_ HW_ => ?_); generalize wc.drew = w17 at BK107 BK108 HB hHeld ⊢; refine pure_ (i := 0) (N := some 30) (v := ?_) (a' := ?_) (bA 12 1) rfl rfl (any_of HT_.out (by kernel_rfl)) (fun _ _ _ h => h) (Or.inl ⟨by rfl, ?_⟩) ?_ ?_; rotate_left
    · intro w'; go_simp; with_reducible rfl
    rotate_left
    · simp only [ap]; rfl
    refine pure_ (i := 2) (N := some 32) (v := ?_) (a' := ?_) (bA 12 5) rfl rfl (any_of HT_.out (by kernel_rfl)) (fun _ _ _ h => h) (Or.inl ⟨by rfl, ?_⟩) ?_ ?_; rotate_left
    · intro w'; go_simp; with_reducible rfl
    rotate_left
    · simp only [ap]; rfl
    refine pure_ (i := 5) (N := some 35) (v := ?_) (a' := ?_) (bA 12 37) rfl rfl (any_of HT_.out (by kernel_rfl)) (fun _ _ _ h => h) (Or.inl ⟨by rfl, ?_⟩) ?_ ?_; rotate_left
    · intro w'; go_simp; with_reducible rfl
    rotate_left
    · simp only [ap]; rfl
    refine pure_ (i := 7) (N := some 37) (v := ?_) (a' := ?_) (bA 12 165) rfl rfl (any_of HT_.out (by kernel_rfl)) (fun _ _ _ h => h) (Or.inl ⟨by rfl, ?_⟩) ?_ ?_; rotate_left
    · intro w'; go_simp; with_reducible rfl
    rotate_left
    · simp only [ap]; rfl
    refine take_ (i := 1) (N := some 31) (v := ?_) (a' := ?_) (bA 12 167) rfl rfl (take_ofW HT_.out HW_.out (by kernel_rfl)) (fun _ _ _ h => h) (Or.inl ⟨by rfl, ?_⟩) hHeld ?_ ?_; rotate_left
    · rintro w' ⟨s0, s1, s2, s3⟩; go_simp; with_reducible rfl
    rotate_left
    · simp only [ap]; rfl
    refine take_ (i := 3) (N := some 33) (v := ?_) (a' := ?_) (bA 12 175) rfl rfl (take_ofW HT_.out HW_.out (by kernel_rfl)) (fun _ _ _ h => h) (Or.inl ⟨by rfl, ?_⟩) hHeld ?_ ?_; rotate_left
    · rintro w' ⟨s0, s1, s2, s3⟩; go_simp; with_reducible rfl
    rotate_left
    · simp only [ap]; rfl
    refine pure_ (i := 4) (N := some 34) (v := ?_) (a' := ?_) (bA 12 191) rfl rfl (any_of HT_.out (by kernel_rfl)) (fun _ _ _ h => h) (Or.inl ⟨by rfl, ?_⟩) ?_ ?_; rotate_left
    · intro w'; go_simp; with_reducible rfl
    rotate_left
    · simp only [ap]; rfl
    refine pure_ (i := 10) (N := some 7) (v := ?_) (a' := ?_) (bA 12 1215) rfl rfl (any_of HT_.out (by kernel_rfl)) (fun _ _ _ h => h) (Or.inl ⟨by rfl, ?_⟩) ?_ ?_; rotate_left
    · intro w'; go_simp; with_reducible rfl
    rotate_left
    · simp only [ap]; rfl
    refine take_ (i := 6) (N := some 36) (v := ?_) (a' := ?_) (bA 12 1279) rfl rfl (take_ofW HT_.out HW_.out (by kernel_rfl)) (fun _ _ _ h => h) (Or.inl ⟨by rfl, ?_⟩) hHeld ?_ ?_; rotate_left
    · rintro w' ⟨s0, s1, s2, s3⟩; go_simp; with_reducible rfl
    rotate_left
    · simp only [ap]; rfl
    refine take_ (i := 8) (N := some 38) (v := ?_) (a' := ?_) (bA 12 1535) rfl rfl (take_ofW HT_.out HW_.out (by kernel_rfl)) (fun _ _ _ h => h) (Or.inl ⟨by rfl, ?_⟩) hHeld ?_ ?_; rotate_left
    · rintro w' ⟨s0, s1, s2, s3⟩; go_simp; with_reducible rfl
    rotate_left
    · simp only [ap]; rfl
    refine pure_ (i := 9) (N := some 39) (v := ?_) (a' := ?_) (bA 12 2047) rfl rfl (any_of HT_.out (by kernel_rfl)) (fun _ _ _ h => h) (Or.inl ⟨by rfl, ?_⟩) ?_ ?_; rotate_left
    · intro w'; go_simp; with_reducible rfl
    rotate_left
    · simp only [ap]; rfl
    refine pure_ (i := 11) (N := some 8) (v := ?_) (a' := ?_) (bA 12 4095) rfl rfl (any_of HT_.out (by kernel_rfl)) (fun _ _ _ h => h) (Or.inl ⟨by rfl, ?_⟩) ?_ ?_; rotate_left
    · intro w'; go_simp; with_reducible rfl
    rotate_left
    · simp only [ap]; rfl
    refine done_ (done_of HT_.out (by kernel_rfl)) ?_; (try go_wp2_with (first | ((with_reducible refine gate_callee (f := 51) rfl ?_); refine goesL_ (some 46) rfl rfl Tryz.func51 (by kernel_rfl) rfl #[.bool (decide ((wrap64 (a0_0 * a1_1)) < (wrap64 (a1_0 * a0_1)))), .bool (decide ((wrap64 (a0_0 * a1_1)) > (wrap64 (a1_0 * a0_1))))] rfl (by (try simp only [mp]); first | done | rfl | (simp only [ld]; rfl)) ?_; (with_reducible refine (ratio_sign.calls (decide ((wrap64 (a0_0 * a1_1)) < (wrap64 (a1_0 * a0_1)))) (decide ((wrap64 (a0_0 * a1_1)) > (wrap64 (a1_0 * a0_1)))) t113 _ A16.out).mono ?_); rintro e w' ⟨rfl, ⟨nd, rfl⟩⟩; refine ⟨_, rfl, ?_⟩))); go_ret; exact en_
def span_Valid.j0 : Nat → Bool → Int → Int → Int → Int → Int → Bool → Bool → Option (Bool)
 | 0, _, _, _, _, _, _, _, _ => none
 | k + 1, x22, x115000, x115001, x115002, x115003, x115004, x115005, x115006 => if x22 = true then (some false) else (if x115006 = true then (if (x115000 == 0 && (x115001 == 0)) = true then (if (x115002 == 0 && (x115003 == 0)) = true then (some (x115004 == 0)) else (some false)) else (some false)) else ((ratio_Is.f k x115000 x115001).bind fun t117 => (if t117 = true then ((ratio_Is.f k x115002 x115003).bind fun t118 => (if t118 = true then ((ratio_Cmp.f k x115000 x115001 x115002 x115003).bind fun t119 => (some (decide (t119 ≤ 0)))) else (some true))) else (some true))))
def span_Valid.f (k : Nat) (a0_0 : Int) (a0_1 : Int) (a0_2 : Int) (a0_3 : Int) (a0_4 : Int) (a0_5 : Bool) (a0_6 : Bool) : Option (Bool) := (ratio_Valid.f k a0_0 a0_1).bind fun t115 => (if t115 = true then ((ratio_Valid.f k a0_2 a0_3).bind fun t116 => (if t116 = true then (if a0_4 < 0 then (span_Valid.j0 k true a0_0 a0_1 a0_2 a0_3 a0_4 a0_5 a0_6) else (span_Valid.j0 k (decide (a0_4 > 1073741824)) a0_0 a0_1 a0_2 a0_3 a0_4 a0_5 a0_6)) else (span_Valid.j0 k true a0_0 a0_1 a0_2 a0_3 a0_4 a0_5 a0_6))) else (span_Valid.j0 k true a0_0 a0_1 a0_2 a0_3 a0_4 a0_5 a0_6))
theorem span_Valid.mono_l : ∀ k, (∀ y0 y1 y2 y3 y4 y5 y6 y7, LeO (span_Valid.j0 k y0 y1 y2 y3 y4 y5 y6 y7) (span_Valid.j0 (k + 1) y0 y1 y2 y3 y4 y5 y6 y7))
 | 0 => fun _ _ _ _ _ _ _ _ r h => by simp [span_Valid.j0] at h
 | k + 1 => by
  have ih0 := span_Valid.mono_l k
  ·
   intro y0 y1 y2 y3 y4 y5 y6 y7
   unfold span_Valid.j0
   repeat' first
   | (with_reducible exact ih0 _ _ _ _ _ _ _ _)
   | (with_reducible exact ratio_Cmp.mono _ _ _ _ _)
   | (with_reducible exact ratio_Is.mono _ _ _)
   | (with_reducible exact ratio_Valid.mono _ _ _)
   | (with_reducible exact LeO.refl _)
   | (with_reducible exact LeO.none _)
   | (with_reducible refine LeO.ite ?_ ?_)
   | (with_reducible refine LeO.bind ?_ (fun _ => ?_))
   | exact ih0 _ _ _ _ _ _ _ _
   | exact ratio_Cmp.mono _ _ _ _ _
   | exact ratio_Is.mono _ _ _
   | exact ratio_Valid.mono _ _ _
   | exact LeO.none _
   | refine LeO.ite ?_ ?_
   | refine LeO.bind ?_ (fun _ => ?_)
theorem span_Valid.mono : ∀ a0 a1 a2 a3 a4 a5 a6 k, LeO (span_Valid.f k a0 a1 a2 a3 a4 a5 a6) (span_Valid.f (k + 1) a0 a1 a2 a3 a4 a5 a6) := by
 intro a0 a1 a2 a3 a4 a5 a6 k
 have ih0 := span_Valid.mono_l k
 unfold span_Valid.f
 repeat' first
   | (with_reducible exact ih0 _ _ _ _ _ _ _ _)
   | (with_reducible exact ratio_Cmp.mono _ _ _ _ _)
   | (with_reducible exact ratio_Is.mono _ _ _)
   | (with_reducible exact ratio_Valid.mono _ _ _)
   | (with_reducible exact LeO.refl _)
   | (with_reducible exact LeO.none _)
   | (with_reducible refine LeO.ite ?_ ?_)
   | (with_reducible refine LeO.bind ?_ (fun _ => ?_))
   | exact ih0 _ _ _ _ _ _ _ _
   | exact ratio_Cmp.mono _ _ _ _ _
   | exact ratio_Is.mono _ _ _
   | exact ratio_Valid.mono _ _ _
   | exact LeO.none _
   | refine LeO.ite ?_ ?_
   | refine LeO.bind ?_ (fun _ => ?_)
set_option maxHeartbeats 8000000 in
set_option maxRecDepth 100000 in
theorem span_Valid.calls (k : Nat) (a0_0 : Int) (a0_1 : Int) (a0_2 : Int) (a0_3 : Int) (a0_4 : Int) (a0_5 : Bool) (a0_6 : Bool) (r : Bool) (w : World) (h : span_Valid.f k a0_0 a0_1 a0_2 a0_3 a0_4 a0_5 a0_6 = some r) :
  Calls Tryz.prog 4 #[.agg #[.int .i64 a0_0, .int .i64 a0_1, .int .i64 a0_2, .int .i64 a0_3, .int .i64 a0_4, .bool a0_5, .bool a0_6]] w fun e w' => e = .returned (.bool r) ∧ Below w.heap.size w w' := by
 have hu25 := Tryz.underlying25; have hu23 := Tryz.underlying23; have HB := Aside0.mk (Below.refl w.heap.size w); have H : ((ratio_Valid.f k a0_0 a0_1).bind fun t115 => (if t115 = true then ((ratio_Valid.f k a0_2 a0_3).bind fun t116 => (if t116 = true then (if a0_4 < 0 then (span_Valid.j0 k true a0_0 a0_1 a0_2 a0_3 a0_4 a0_5 a0_6) else (span_Valid.j0 k (decide (a0_4 > 1073741824)) a0_0 a0_1 a0_2 a0_3 a0_4 a0_5 a0_6)) else (span_Valid.j0 k true a0_0 a0_1 a0_2 a0_3 a0_4 a0_5 a0_6))) else (span_Valid.j0 k true a0_0 a0_1 a0_2 a0_3 a0_4 a0_5 a0_6))) = some r := h; clear h; have HC2 := Aside0.mk H; clear H; go_enter Tryz.func4, Tryz.ntmps4; go_upto_region 1 with (first | ((with_reducible refine gate_dst (N := 1) rfl ?_); refine bx_ 1 #[.int .i64 a0_0, .int .i64 a0_1, .int .i64 a0_2, .int .i64 a0_3, .int .i64 a0_4, .bool a0_5, .bool a0_6] 25 ?_; intro gb114 hg w3 BK114 hb; have GE114 := hz_ hg HB; replace HB := hs HB hb; clear hb hg)); (try simp only [Act.put, List.setIfInBounds_toArray, List.set_cons_zero, List.set_cons_succ])
 go_cut [22] (fun v22 wc => ∃ (kq : Nat) (x22_1 : Bool), v22 = .bool x22_1 ∧ Aside0 (span_Valid.j0 kq x22_1 a0_0 a0_1 a0_2 a0_3 a0_4 a0_5 a0_6 = some r) ∧ Aside0 (kq ≤ k) ∧ Aside0 (wc.heap[gb114]? = some (.cells #[.int .i64 a0_0, .int .i64 a0_1, .int .i64 a0_2, .int .i64 a0_3, .int .i64 a0_4, .bool a0_5, .bool a0_6] 25 (0, 0))) ∧ Aside0 (Below w.heap.size w wc))
 case first =>
  have H := HC2.out; clear HC2; replace H := Option.bind_eq_some_iff.mp H; obtain ⟨t115, A40, H⟩ := H; (try dsimp only at H); have A4 := Aside0.mk A40; clear A40; by_cases c5 : t115 = true
  ·
   subst c5; rw [if_pos rfl] at H; replace H := Option.bind_eq_some_iff.mp H; obtain ⟨t116, A60, H⟩ := H; (try dsimp only at H); have A6 := Aside0.mk A60; clear A60; by_cases c7 : t116 = true
   ·
    subst c7; rw [if_pos rfl] at H; by_cases c8 : a0_4 < 0
    ·
     rw [if_pos c8] at H; have c8b0 : decide (a0_4 < 0) = true := decide_eq_true c8; clear c8; (first | rw [c8b0] | (simp only [i64_w, i32_w]; rw [c8b0]) | skip); have H' := Aside0.mk H; clear H; obtain ⟨hcz9_0, hcz9_1, hcz9_2, hcz9_3, hcz9_4, hcz9_5, hcz9_6⟩ := bc7 BK114.out; obtain ⟨hfz9_0, hfz9_1, hfz9_2, hfz9_3, hfz9_4, hfz9_5, hfz9_6⟩ := bf7 BK114.out; go_wp2_with (first | ((with_reducible refine gate_callee (f := 23) rfl ?_); refine goesL_ (some 5) rfl rfl Tryz.func23 (by kernel_rfl) rfl #[.agg #[.int .i64 a0_0, .int .i64 a0_1]] rfl (by (try simp only [mp]); first | done | rfl | (simp only [ld]; rfl)) ?_; (with_reducible refine (ratio_Valid.calls k a0_0 a0_1 true _ A4.out).mono ?_); rintro e w10 ⟨rfl, hb⟩; refine ⟨_, rfl, ?_⟩; replace BK114 := kb BK114 hb; replace HB := hb_ w hb; obtain ⟨hcz11_0, hcz11_1, hcz11_2, hcz11_3, hcz11_4, hcz11_5, hcz11_6⟩ := bc7 BK114.out; obtain ⟨hfz11_0, hfz11_1, hfz11_2, hfz11_3, hfz11_4, hfz11_5, hfz11_6⟩ := bf7 BK114.out) | (go_at_call 23; (with_reducible refine (ratio_Valid.calls k a0_2 a0_3 true _ A6.out).mono ?_); rintro e w12 ⟨rfl, hb⟩; replace BK114 := kb BK114 hb; replace HB := hb_ w hb; obtain ⟨hcz13_0, hcz13_1, hcz13_2, hcz13_3, hcz13_4, hcz13_5, hcz13_6⟩ := bc7 BK114.out; obtain ⟨hfz13_0, hfz13_1, hfz13_2, hfz13_3, hfz13_4, hfz13_5, hfz13_6⟩ := bf7 BK114.out)); go_meet
     case rel => exact ⟨_, (true), (by first | rfl | (simp; done) | (simp [*]; done)), H', ⟨by first | omega | exact Nat.le_refl _⟩, ⟨bk BK114.out⟩, ab2_⟩
    ·
     rw [if_neg c8] at H; have c8b0 : decide (a0_4 < 0) = false := decide_eq_false c8; clear c8; (first | rw [c8b0] | (simp only [i64_w, i32_w]; rw [c8b0]) | skip); have H' := Aside0.mk H; clear H; obtain ⟨hcz14_0, hcz14_1, hcz14_2, hcz14_3, hcz14_4, hcz14_5, hcz14_6⟩ := bc7 BK114.out; obtain ⟨hfz14_0, hfz14_1, hfz14_2, hfz14_3, hfz14_4, hfz14_5, hfz14_6⟩ := bf7 BK114.out; go_wp2_with (first | ((with_reducible refine gate_callee (f := 23) rfl ?_); refine goesL_ (some 5) rfl rfl Tryz.func23 (by kernel_rfl) rfl #[.agg #[.int .i64 a0_0, .int .i64 a0_1]] rfl (by (try simp only [mp]); first | done | rfl | (simp only [ld]; rfl)) ?_; (with_reducible refine (ratio_Valid.calls k a0_0 a0_1 true _ A4.out).mono ?_); rintro e w15 ⟨rfl, hb⟩; refine ⟨_, rfl, ?_⟩; replace BK114 := kb BK114 hb; replace HB := hb_ w hb; obtain ⟨hcz16_0, hcz16_1, hcz16_2, hcz16_3, hcz16_4, hcz16_5, hcz16_6⟩ := bc7 BK114.out; obtain ⟨hfz16_0, hfz16_1, hfz16_2, hfz16_3, hfz16_4, hfz16_5, hfz16_6⟩ := bf7 BK114.out) | (go_at_call 23; (with_reducible refine (ratio_Valid.calls k a0_2 a0_3 true _ A6.out).mono ?_); rintro e w17 ⟨rfl, hb⟩; replace BK114 := kb BK114 hb; replace HB := hb_ w hb; obtain ⟨hcz18_0, hcz18_1, hcz18_2, hcz18_3, hcz18_4, hcz18_5, hcz18_6⟩ := bc7 BK114.out; obtain ⟨hfz18_0, hfz18_1, hfz18_2, hfz18_3, hfz18_4, hfz18_5, hfz18_6⟩ := bf7 BK114.out)); go_meet
     case rel => exact ⟨_, (decide (a0_4 > 1073741824)), (by first | rfl | (simp; done) | (simp [*]; done)), H', ⟨by first | omega | exact Nat.le_refl _⟩, ⟨bk BK114.out⟩, ab2_⟩
   ·
    replace c7 := Bool.eq_false_iff.mpr c7; subst c7; rw [if_neg (show ¬ (false = true) by decide)] at H; have H' := Aside0.mk H; clear H; obtain ⟨hcz19_0, hcz19_1, hcz19_2, hcz19_3, hcz19_4, hcz19_5, hcz19_6⟩ := bc7 BK114.out; obtain ⟨hfz19_0, hfz19_1, hfz19_2, hfz19_3, hfz19_4, hfz19_5, hfz19_6⟩ := bf7 BK114.out; go_wp2_with (first | ((with_reducible refine gate_callee (f := 23) rfl ?_); refine goesL_ (some 5) rfl rfl Tryz.func23 (by kernel_rfl) rfl #[.agg #[.int .i64 a0_0, .int .i64 a0_1]] rfl (by (try simp only [mp]); first | done | rfl | (simp only [ld]; rfl)) ?_; (with_reducible refine (ratio_Valid.calls k a0_0 a0_1 true _ A4.out).mono ?_); rintro e w20 ⟨rfl, hb⟩; refine ⟨_, rfl, ?_⟩; replace BK114 := kb BK114 hb; replace HB := hb_ w hb; obtain ⟨hcz21_0, hcz21_1, hcz21_2, hcz21_3, hcz21_4, hcz21_5, hcz21_6⟩ := bc7 BK114.out; obtain ⟨hfz21_0, hfz21_1, hfz21_2, hfz21_3, hfz21_4, hfz21_5, hfz21_6⟩ := bf7 BK114.out) | (go_at_call 23; (with_reducible refine (ratio_Valid.calls k a0_2 a0_3 false _ A6.out).mono ?_); rintro e w22 ⟨rfl, hb⟩; replace BK114 := kb BK114 hb; replace HB := hb_ w hb; )); go_meet
    case rel => exact ⟨_, (true), (by first | rfl | (simp; done) | (simp [*]; done)), H', ⟨by first | omega | exact Nat.le_refl _⟩, ⟨bk BK114.out⟩, ab2_⟩
  ·
   replace c5 := Bool.eq_false_iff.mpr c5; subst c5; rw [if_neg (show ¬ (false = true) by decide)] at H; have H' := Aside0.mk H; clear H; obtain ⟨hcz23_0, hcz23_1, hcz23_2, hcz23_3, hcz23_4, hcz23_5, hcz23_6⟩ := bc7 BK114.out; obtain ⟨hfz23_0, hfz23_1, hfz23_2, hfz23_3, hfz23_4, hfz23_5, hfz23_6⟩ := bf7 BK114.out; go_wp2_with (first | ((with_reducible refine gate_callee (f := 23) rfl ?_); refine goesL_ (some 5) rfl rfl Tryz.func23 (by kernel_rfl) rfl #[.agg #[.int .i64 a0_0, .int .i64 a0_1]] rfl (by (try simp only [mp]); first | done | rfl | (simp only [ld]; rfl)) ?_; (with_reducible refine (ratio_Valid.calls k a0_0 a0_1 false _ A4.out).mono ?_); rintro e w24 ⟨rfl, hb⟩; refine ⟨_, rfl, ?_⟩; replace BK114 := kb BK114 hb; replace HB := hb_ w hb; )); go_meet
   case rel => exact ⟨_, (true), (by first | rfl | (simp; done) | (simp [*]; done)), H', ⟨by first | omega | exact Nat.le_refl _⟩, ⟨bk BK114.out⟩, ab2_⟩
 case rest =>
  clear HC2; obtain ⟨kq, x22_1, rfl, HA, HJ1, BK114, HB⟩ := hcut; cases kq with
  | zero => exact absurd HA.out (by simp [span_Valid.j0])
  | succ kj1 =>
   have H := HA.out; clear HA; simp only [span_Valid.j0] at H; by_cases c25 : x22_1 = true
   · subst c25; rw [if_pos rfl] at H; obtain rfl := Option.some.inj H; go_wp2; go_ret; exact en_
   ·
    replace c25 := Bool.eq_false_iff.mpr c25; subst c25; rw [if_neg (show ¬ (false = true) by decide)] at H; by_cases c26 : a0_6 = true
    ·
     subst c26; rw [if_pos rfl] at H; by_cases c27 : (a0_0 == 0 && (a0_1 == 0)) = true
     ·
      rw [if_pos c27] at H; have c27b0 : (a0_0 == 0 && (a0_1 == 0)) = true := c27; (try (have c27b1 : decide (a0_0 = 0 && (a0_1 == 0)) = true := by simpa using c27)); (try (have c27b2 : (a0_0 == 0 && (a0_1 == 0)) = true := by simpa using c27)); clear c27; by_cases c28 : (a0_2 == 0 && (a0_3 == 0)) = true
      · rw [if_pos c28] at H; have c28b0 : (a0_2 == 0 && (a0_3 == 0)) = true := c28; (try (have c28b1 : decide (a0_2 = 0 && (a0_3 == 0)) = true := by simpa using c28)); (try (have c28b2 : (a0_2 == 0 && (a0_3 == 0)) = true := by simpa using c28)); clear c28; obtain rfl := Option.some.inj H; obtain ⟨hcz29_0, hcz29_1, hcz29_2, hcz29_3, hcz29_4, hcz29_5, hcz29_6⟩ := bc7 BK114.out; obtain ⟨hfz29_0, hfz29_1, hfz29_2, hfz29_3, hfz29_4, hfz29_5, hfz29_6⟩ := bf7 BK114.out; go_wp2; go_ret; exact en_
      · rw [if_neg c28] at H; (have c28b0 : (a0_2 == 0 && (a0_3 == 0)) = false := by simpa using c28); (try (have c28b1 : decide (a0_2 = 0 && (a0_3 == 0)) = false := by simpa using c28)); (try (have c28b2 : (a0_2 == 0 && (a0_3 == 0)) = false := by simpa using c28)); (try (have c28b3 : ¬ (a0_2 = 0 && (a0_3 == 0)) := by simpa using c28)); clear c28; obtain rfl := Option.some.inj H; obtain ⟨hcz30_0, hcz30_1, hcz30_2, hcz30_3, hcz30_4, hcz30_5, hcz30_6⟩ := bc7 BK114.out; obtain ⟨hfz30_0, hfz30_1, hfz30_2, hfz30_3, hfz30_4, hfz30_5, hfz30_6⟩ := bf7 BK114.out; go_wp2; go_ret; exact en_
     · rw [if_neg c27] at H; (have c27b0 : (a0_0 == 0 && (a0_1 == 0)) = false := by simpa using c27); (try (have c27b1 : decide (a0_0 = 0 && (a0_1 == 0)) = false := by simpa using c27)); (try (have c27b2 : (a0_0 == 0 && (a0_1 == 0)) = false := by simpa using c27)); (try (have c27b3 : ¬ (a0_0 = 0 && (a0_1 == 0)) := by simpa using c27)); clear c27; obtain rfl := Option.some.inj H; obtain ⟨hcz31_0, hcz31_1, hcz31_2, hcz31_3, hcz31_4, hcz31_5, hcz31_6⟩ := bc7 BK114.out; obtain ⟨hfz31_0, hfz31_1, hfz31_2, hfz31_3, hfz31_4, hfz31_5, hfz31_6⟩ := bf7 BK114.out; go_wp2; go_ret; exact en_
    ·
     replace c26 := Bool.eq_false_iff.mpr c26; subst c26; rw [if_neg (show ¬ (false = true) by decide)] at H; replace H := Option.bind_eq_some_iff.mp H; obtain ⟨t117, A320, H⟩ := H; (try dsimp only at H); have A32 := Aside0.mk A320; clear A320; by_cases c33 : t117 = true
     ·
      subst c33; rw [if_pos rfl] at H; replace H := Option.bind_eq_some_iff.mp H; obtain ⟨t118, A340, H⟩ := H; (try dsimp only at H); have A34 := Aside0.mk A340; clear A340; by_cases c35 : t118 = true
      · subst c35; rw [if_pos rfl] at H; replace H := Option.bind_eq_some_iff.mp H; obtain ⟨t119, A360, H⟩ := H; (try dsimp only at H); have A36 := Aside0.mk A360; clear A360; obtain rfl := Option.some.inj H; obtain ⟨hcz37_0, hcz37_1, hcz37_2, hcz37_3, hcz37_4, hcz37_5, hcz37_6⟩ := bc7 BK114.out; obtain ⟨hfz37_0, hfz37_1, hfz37_2, hfz37_3, hfz37_4, hfz37_5, hfz37_6⟩ := bf7 BK114.out; go_wp2_with (first | ((with_reducible refine gate_callee (f := 24) rfl ?_); refine goesL_ (some 42) rfl rfl Tryz.func24 (by kernel_rfl) rfl #[.agg #[.int .i64 a0_0, .int .i64 a0_1]] rfl (by (try simp only [mp]); first | done | rfl | (simp only [ld]; rfl)) ?_; (with_reducible refine (ratio_Is.calls kj1 a0_0 a0_1 true _ A32.out).mono ?_); rintro e w38 ⟨rfl, hb⟩; refine ⟨_, rfl, ?_⟩; replace BK114 := kb BK114 hb; replace HB := hb_ w hb; obtain ⟨hcz39_0, hcz39_1, hcz39_2, hcz39_3, hcz39_4, hcz39_5, hcz39_6⟩ := bc7 BK114.out; obtain ⟨hfz39_0, hfz39_1, hfz39_2, hfz39_3, hfz39_4, hfz39_5, hfz39_6⟩ := bf7 BK114.out) | (go_at_call 24; (with_reducible refine (ratio_Is.calls kj1 a0_2 a0_3 true _ A34.out).mono ?_); rintro e w40 ⟨rfl, hb⟩; replace BK114 := kb BK114 hb; replace HB := hb_ w hb; obtain ⟨hcz41_0, hcz41_1, hcz41_2, hcz41_3, hcz41_4, hcz41_5, hcz41_6⟩ := bc7 BK114.out; obtain ⟨hfz41_0, hfz41_1, hfz41_2, hfz41_3, hfz41_4, hfz41_5, hfz41_6⟩ := bf7 BK114.out) | (go_at_call 25; (with_reducible refine (ratio_Cmp.calls kj1 a0_0 a0_1 a0_2 a0_3 t119 _ A36.out).mono ?_); rintro e w42 ⟨rfl, hb⟩; replace BK114 := kb BK114 hb; replace HB := hb_ w hb; )); go_ret; exact en_
      · replace c35 := Bool.eq_false_iff.mpr c35; subst c35; rw [if_neg (show ¬ (false = true) by decide)] at H; obtain rfl := Option.some.inj H; obtain ⟨hcz43_0, hcz43_1, hcz43_2, hcz43_3, hcz43_4, hcz43_5, hcz43_6⟩ := bc7 BK114.out; obtain ⟨hfz43_0, hfz43_1, hfz43_2, hfz43_3, hfz43_4, hfz43_5, hfz43_6⟩ := bf7 BK114.out; go_wp2_with (first | ((with_reducible refine gate_callee (f := 24) rfl ?_); refine goesL_ (some 42) rfl rfl Tryz.func24 (by kernel_rfl) rfl #[.agg #[.int .i64 a0_0, .int .i64 a0_1]] rfl (by (try simp only [mp]); first | done | rfl | (simp only [ld]; rfl)) ?_; (with_reducible refine (ratio_Is.calls kj1 a0_0 a0_1 true _ A32.out).mono ?_); rintro e w44 ⟨rfl, hb⟩; refine ⟨_, rfl, ?_⟩; replace BK114 := kb BK114 hb; replace HB := hb_ w hb; obtain ⟨hcz45_0, hcz45_1, hcz45_2, hcz45_3, hcz45_4, hcz45_5, hcz45_6⟩ := bc7 BK114.out; obtain ⟨hfz45_0, hfz45_1, hfz45_2, hfz45_3, hfz45_4, hfz45_5, hfz45_6⟩ := bf7 BK114.out) | (go_at_call 24; (with_reducible refine (ratio_Is.calls kj1 a0_2 a0_3 false _ A34.out).mono ?_); rintro e w46 ⟨rfl, hb⟩; replace BK114 := kb BK114 hb; replace HB := hb_ w hb; )); go_ret; exact en_
     · replace c33 := Bool.eq_false_iff.mpr c33; subst c33; rw [if_neg (show ¬ (false = true) by decide)] at H; obtain rfl := Option.some.inj H; obtain ⟨hcz47_0, hcz47_1, hcz47_2, hcz47_3, hcz47_4, hcz47_5, hcz47_6⟩ := bc7 BK114.out; obtain ⟨hfz47_0, hfz47_1, hfz47_2, hfz47_3, hfz47_4, hfz47_5, hfz47_6⟩ := bf7 BK114.out; go_wp2_with (first | ((with_reducible refine gate_callee (f := 24) rfl ?_); refine goesL_ (some 42) rfl rfl Tryz.func24 (by kernel_rfl) rfl #[.agg #[.int .i64 a0_0, .int .i64 a0_1]] rfl (by (try simp only [mp]); first | done | rfl | (simp only [ld]; rfl)) ?_; (with_reducible refine (ratio_Is.calls kj1 a0_0 a0_1 false _ A32.out).mono ?_); rintro e w48 ⟨rfl, hb⟩; refine ⟨_, rfl, ?_⟩; replace BK114 := kb BK114 hb; replace HB := hb_ w hb; )); go_ret; exact en_
def serinetteref01_None.f  : Option (Int × Int) := some (0, 0)
set_option maxHeartbeats 8000000 in
set_option maxRecDepth 100000 in
theorem serinetteref01_None.calls  (r1 : Int) (r2 : Int) (w : World) (h : serinetteref01_None.f  = some (r1, r2)) :
  Calls Tryz.prog 26 #[] w fun e w' => e = .returned (.agg #[.int .i64 r1, .int .i64 r2]) ∧ Below w.heap.size w w' := by
 have hu23 := Tryz.underlying23; have HB := Aside0.mk (Below.refl w.heap.size w); have H : (some (0, 0)) = some (r1, r2) := h; clear h; simp only [Option.some.injEq, Prod.mk.injEq] at H; obtain ⟨rfl, rfl⟩ := H; go_enter Tryz.func26, Tryz.ntmps26; go_wp2_with (first | ((with_reducible refine gate_dst (N := 0) rfl ?_); refine bx_ 0 #[.int .i64 0, .int .i64 0] 23 ?_; intro gb120 hg w1 BK120 hb; have GE120 := hz_ hg HB; replace HB := hs HB hb; clear hb hg; obtain ⟨hcz2_0, hcz2_1⟩ := bc2 BK120.out; obtain ⟨hfz2_0, hfz2_1⟩ := bf2 BK120.out)); refine bodyPost_ret (results_cell_row rfl _ _ gb120 23 #[.int .i64 0, .int .i64 0] (0, 0) _ rfl (by exact rq BK120.out (by rfl)) Tryz.underlying23 rfl (by kernel_rfl)) rfl ?_; exact en_
mutual
def serinetteref01_Divisor.j0 : Nat → Int → Int → Option (Int)
 | 0, _, _ => none
 | k + 1, x0, x1 => if x1 < 0 then (serinetteref01_Divisor.j1 k x0 (wrap64 (-x1))) else (serinetteref01_Divisor.j1 k x0 x1)
def serinetteref01_Divisor.j1 : Nat → Int → Int → Option (Int)
 | 0, _, _ => none
 | k + 1, x0, x1 => serinetteref01_Divisor.l0 k x0 x1
def serinetteref01_Divisor.l0 : Nat → Int → Int → Option (Int)
 | 0, _, _ => none
 | k + 1, x0, x1 => if x1 = 0 then (some x0) else (serinetteref01_Divisor.l0 k x1 (Int.tmod x0 x1))
end
def serinetteref01_Divisor.f (k : Nat) (a0 : Int) (a1 : Int) : Option (Int) := if a0 < 0 then (serinetteref01_Divisor.j0 k (wrap64 (-a0)) a1) else (serinetteref01_Divisor.j0 k a0 a1)
theorem serinetteref01_Divisor.mono_l : ∀ k, (∀ y0 y1, LeO (serinetteref01_Divisor.j0 k y0 y1) (serinetteref01_Divisor.j0 (k + 1) y0 y1)) ∧ (∀ y0 y1, LeO (serinetteref01_Divisor.j1 k y0 y1) (serinetteref01_Divisor.j1 (k + 1) y0 y1)) ∧ (∀ y0 y1, LeO (serinetteref01_Divisor.l0 k y0 y1) (serinetteref01_Divisor.l0 (k + 1) y0 y1))
 | 0 => ⟨fun _ _ r h => by simp [serinetteref01_Divisor.j0] at h, fun _ _ r h => by simp [serinetteref01_Divisor.j1] at h, fun _ _ r h => by simp [serinetteref01_Divisor.l0] at h⟩
 | k + 1 => by
  obtain ⟨ih0, ih1, ih2⟩ := serinetteref01_Divisor.mono_l k
  refine ⟨?_, ?_, ?_⟩
  ·
   intro y0 y1
   unfold serinetteref01_Divisor.j0
   repeat' first
   | (with_reducible exact ih0 _ _)
   | (with_reducible exact ih1 _ _)
   | (with_reducible exact ih2 _ _)
   | (with_reducible exact LeO.refl _)
   | (with_reducible exact LeO.none _)
   | (with_reducible refine LeO.ite ?_ ?_)
   | (with_reducible refine LeO.bind ?_ (fun _ => ?_))
   | exact ih0 _ _
   | exact ih1 _ _
   | exact ih2 _ _
   | exact LeO.none _
   | refine LeO.ite ?_ ?_
   | refine LeO.bind ?_ (fun _ => ?_)
  ·
   intro y0 y1
   unfold serinetteref01_Divisor.j1
   repeat' first
   | (with_reducible exact ih0 _ _)
   | (with_reducible exact ih1 _ _)
   | (with_reducible exact ih2 _ _)
   | (with_reducible exact LeO.refl _)
   | (with_reducible exact LeO.none _)
   | (with_reducible refine LeO.ite ?_ ?_)
   | (with_reducible refine LeO.bind ?_ (fun _ => ?_))
   | exact ih0 _ _
   | exact ih1 _ _
   | exact ih2 _ _
   | exact LeO.none _
   | refine LeO.ite ?_ ?_
   | refine LeO.bind ?_ (fun _ => ?_)
  ·
   intro y0 y1
   unfold serinetteref01_Divisor.l0
   repeat' first
   | (with_reducible exact ih0 _ _)
   | (with_reducible exact ih1 _ _)
   | (with_reducible exact ih2 _ _)
   | (with_reducible exact LeO.refl _)
   | (with_reducible exact LeO.none _)
   | (with_reducible refine LeO.ite ?_ ?_)
   | (with_reducible refine LeO.bind ?_ (fun _ => ?_))
   | exact ih0 _ _
   | exact ih1 _ _
   | exact ih2 _ _
   | exact LeO.none _
   | refine LeO.ite ?_ ?_
   | refine LeO.bind ?_ (fun _ => ?_)
theorem serinetteref01_Divisor.mono : ∀ a0 a1 k, LeO (serinetteref01_Divisor.f k a0 a1) (serinetteref01_Divisor.f (k + 1) a0 a1) := by
 intro a0 a1 k
 obtain ⟨ih0, ih1, ih2⟩ := serinetteref01_Divisor.mono_l k
 unfold serinetteref01_Divisor.f
 repeat' first
   | (with_reducible exact ih0 _ _)
   | (with_reducible exact ih1 _ _)
   | (with_reducible exact ih2 _ _)
   | (with_reducible exact LeO.refl _)
   | (with_reducible exact LeO.none _)
   | (with_reducible refine LeO.ite ?_ ?_)
   | (with_reducible refine LeO.bind ?_ (fun _ => ?_))
   | exact ih0 _ _
   | exact ih1 _ _
   | exact ih2 _ _
   | exact LeO.none _
   | refine LeO.ite ?_ ?_
   | refine LeO.bind ?_ (fun _ => ?_)
set_option maxHeartbeats 8000000 in
set_option maxRecDepth 100000 in
theorem serinetteref01_Divisor.calls (k : Nat) (a0 : Int) (a1 : Int) (r : Int) (w : World) (h : serinetteref01_Divisor.f k a0 a1 = some r) :
  Calls Tryz.prog 44 #[.int .i64 a0, .int .i64 a1] w fun e w' => e = .returned (.int .i64 r) ∧ Drawn0 w w' := by
 have H : (if a0 < 0 then (serinetteref01_Divisor.j0 k (wrap64 (-a0)) a1) else (serinetteref01_Divisor.j0 k a0 a1)) = some r := h; clear h; have HC3 := Aside0.mk H; clear H; go_enter Tryz.func44, Tryz.ntmps44; go_upto_if 7 with (fail)
 go_cut [0] (fun v0 wc => ∃ (kq : Nat) (x0_2 : Int), v0 = .int .i64 x0_2 ∧ Aside0 (serinetteref01_Divisor.j0 kq x0_2 a1 = some r) ∧ Aside0 (kq ≤ k) ∧ Drawn0 w wc)
 case first =>
  have H := HC3.out; clear HC3; by_cases c4 : a0 < 0
  ·
   rw [if_pos c4] at H; have c4b0 : decide (a0 < 0) = true := decide_eq_true c4; clear c4; (first | rw [c4b0] | (simp only [i64_w, i32_w]; rw [c4b0]) | skip); have H' := Aside0.mk H; clear H; go_wp2; go_meet
   case rel => exact ⟨_, (wrap64 (-a0)), (by first | rfl | (simp; done) | (simp [*]; done)), H', ⟨by first | omega | exact Nat.le_refl _⟩, by repeat (first | exact Drawn0.refl _ | apply Drawn0.step)⟩
  ·
   rw [if_neg c4] at H; have c4b0 : decide (a0 < 0) = false := decide_eq_false c4; clear c4; (first | rw [c4b0] | (simp only [i64_w, i32_w]; rw [c4b0]) | skip); have H' := Aside0.mk H; clear H; go_wp2; go_meet
   case rel => exact ⟨_, (a0), (by first | rfl | (simp; done) | (simp [*]; done)), H', ⟨by first | omega | exact Nat.le_refl _⟩, by repeat (first | exact Drawn0.refl _ | apply Drawn0.step)⟩
 case rest =>
  clear HC3; obtain ⟨kq, x0_2, rfl, HA, HJ2, ⟨mc2, rfl⟩⟩ := hcut; cases kq with
  | zero => exact absurd HA.out (by simp [serinetteref01_Divisor.j0])
  | succ kj2 =>
   have H := HA.out; clear HA; simp only [serinetteref01_Divisor.j0] at H; have HC5 := Aside0.mk H; clear H; go_upto_if 11 with (fail)
   go_cut [1] (fun v1 wc => ∃ (kq : Nat) (x1_4 : Int), v1 = .int .i64 x1_4 ∧ Aside0 (serinetteref01_Divisor.j1 kq x0_2 x1_4 = some r) ∧ Aside0 (kq ≤ kj2) ∧ Drawn0 w wc)
   case first =>
    have H := HC5.out; clear HC5; by_cases c6 : a1 < 0
    ·
     rw [if_pos c6] at H; have c6b0 : decide (a1 < 0) = true := decide_eq_true c6; clear c6; (first | rw [c6b0] | (simp only [i64_w, i32_w]; rw [c6b0]) | skip); have H' := Aside0.mk H; clear H; go_wp2; go_meet
     case rel => exact ⟨_, (wrap64 (-a1)), (by first | rfl | (simp; done) | (simp [*]; done)), H', ⟨by have := HJ2.out; first | omega | exact Nat.le_refl _⟩, by repeat (first | exact Drawn0.refl _ | apply Drawn0.step)⟩
    ·
     rw [if_neg c6] at H; have c6b0 : decide (a1 < 0) = false := decide_eq_false c6; clear c6; (first | rw [c6b0] | (simp only [i64_w, i32_w]; rw [c6b0]) | skip); have H' := Aside0.mk H; clear H; go_wp2; go_meet
     case rel => exact ⟨_, (a1), (by first | rfl | (simp; done) | (simp [*]; done)), H', ⟨by have := HJ2.out; first | omega | exact Nat.le_refl _⟩, by repeat (first | exact Drawn0.refl _ | apply Drawn0.step)⟩
   case rest =>
    clear HC5; obtain ⟨kq, x1_4, rfl, HA, HJ4, ⟨mc4, rfl⟩⟩ := hcut; cases kq with
    | zero => exact absurd HA.out (by simp [serinetteref01_Divisor.j1])
    | succ kj4 =>
     have H := HA.out; clear HA; simp only [serinetteref01_Divisor.j1] at H; have H' := Aside0.mk H; clear H; go_wp2
     go_loopg [0, 1] kj4 (fun kq v0 v1 w' => ∃ (x0_3 : Int) (x1_3 : Int), v0 = .int .i64 x0_3 ∧ v1 = .int .i64 x1_3 ∧ Aside0 (serinetteref01_Divisor.l0 kq x0_3 x1_3 = some r) ∧ Aside0 (kq ≤ kj4) ∧ Drawn0 w w')
     case atStart => exact ⟨(x0_2), (x1_4), (by first | rfl | (simp; done) | (simp [*]; done)), (by first | rfl | (simp; done) | (simp [*]; done)), H', ⟨Nat.le_refl _⟩, by repeat (first | exact Drawn0.refl _ | apply Drawn0.step)⟩
     case round =>
      clear H'; obtain ⟨x0_3, x1_3, rfl, rfl, HA, HK3, ⟨m3, rfl⟩⟩ := hrel; cases gk with
      | zero => exact absurd HA.out (by simp [serinetteref01_Divisor.l0])
      | succ k3 =>
       have H := HA.out; clear HA; simp only [serinetteref01_Divisor.l0] at H; by_cases c7 : x1_3 = 0
       · rw [if_pos c7] at H; have c7b0 : (x1_3 == 0) = true := beq_iff_eq.mpr c7; have c7b1 : (x1_3 != 0) = false := bne_eq_false_iff_eq.mpr c7; clear c7; obtain rfl := Option.some.inj H; go_wp2; go_ret; exact ⟨by first | rfl | (simp; done) | (simp [*]; done), by repeat (first | exact Drawn0.refl _ | apply Drawn0.step)⟩
       ·
        rw [if_neg c7] at H; have c7b0 : (x1_3 == 0) = false := beq_eq_false_iff_ne.mpr c7; have c7b1 : (x1_3 != 0) = true := bne_iff_ne.mpr c7; have H' := Aside0.mk H; clear H; go_wp2; go_roundg k3
        case measure => have := HJ2.out; have := HJ4.out; have := HK3.out; omega
        case rel => exact ⟨(x1_3), (Int.tmod x0_3 x1_3), (by first | rfl | (simp; done) | (simp [*]; done)), (by first | rfl | (simp; done) | (simp [*]; done)), H', ⟨by have := HJ2.out; have := HJ4.out; have := HK3.out; omega⟩, by repeat (first | exact Drawn0.refl _ | apply Drawn0.step)⟩
def serinetteref01_Is.f (k : Nat) (a0_0 : Int) (a0_1 : Int) : Option (Bool) := if a0_1 ≥ 1 then (if a0_1 ≤ 1073741824 then (if a0_0 ≥ (-1073741824) then (if a0_0 ≤ 1073741824 then ((serinetteref01_Divisor.f k a0_0 a0_1).bind fun t122 => (some (t122 == 1))) else (some false)) else (some false)) else (some false)) else (some false)
theorem serinetteref01_Is.mono : ∀ a0 a1 k, LeO (serinetteref01_Is.f k a0 a1) (serinetteref01_Is.f (k + 1) a0 a1) := by
 intro a0 a1 k
 unfold serinetteref01_Is.f
 repeat' first
   | (with_reducible exact serinetteref01_Divisor.mono _ _ _)
   | (with_reducible exact LeO.refl _)
   | (with_reducible exact LeO.none _)
   | (with_reducible refine LeO.ite ?_ ?_)
   | (with_reducible refine LeO.bind ?_ (fun _ => ?_))
   | exact serinetteref01_Divisor.mono _ _ _
   | exact LeO.none _
   | refine LeO.ite ?_ ?_
   | refine LeO.bind ?_ (fun _ => ?_)
set_option maxHeartbeats 8000000 in
set_option maxRecDepth 100000 in
theorem serinetteref01_Is.calls (k : Nat) (a0_0 : Int) (a0_1 : Int) (r : Bool) (w : World) (h : serinetteref01_Is.f k a0_0 a0_1 = some r) :
  Calls Tryz.prog 28 #[.agg #[.int .i64 a0_0, .int .i64 a0_1]] w fun e w' => e = .returned (.bool r) ∧ Below w.heap.size w w' := by
 have hu23 := Tryz.underlying23; have HB := Aside0.mk (Below.refl w.heap.size w); have H : (if a0_1 ≥ 1 then (if a0_1 ≤ 1073741824 then (if a0_0 ≥ (-1073741824) then (if a0_0 ≤ 1073741824 then ((serinetteref01_Divisor.f k a0_0 a0_1).bind fun t122 => (some (t122 == 1))) else (some false)) else (some false)) else (some false)) else (some false)) = some r := h; clear h; by_cases c2 : a0_1 ≥ 1
 ·
  rw [if_pos c2] at H; have c2b0 : decide (1 ≤ a0_1) = true := decide_eq_true c2; clear c2; by_cases c3 : a0_1 ≤ 1073741824
  ·
   rw [if_pos c3] at H; have c3b0 : decide (a0_1 ≤ 1073741824) = true := decide_eq_true c3; clear c3; by_cases c4 : a0_0 ≥ (-1073741824)
   ·
    rw [if_pos c4] at H; have c4b0 : decide ((-1073741824) ≤ a0_0) = true := decide_eq_true c4; clear c4; by_cases c5 : a0_0 ≤ 1073741824
    · rw [if_pos c5] at H; have c5b0 : decide (a0_0 ≤ 1073741824) = true := decide_eq_true c5; clear c5; replace H := Option.bind_eq_some_iff.mp H; obtain ⟨t122, A60, H⟩ := H; (try dsimp only at H); have A6 := Aside0.mk A60; clear A60; obtain rfl := Option.some.inj H; go_enter Tryz.func28, Tryz.ntmps28; go_wp2_with (first | ((with_reducible refine gate_dst (N := 1) rfl ?_); refine bx_ 1 #[.int .i64 a0_0, .int .i64 a0_1] 23 ?_; intro gb121 hg w7 BK121 hb; have GE121 := hz_ hg HB; replace HB := hs HB hb; clear hb hg; obtain ⟨hcz8_0, hcz8_1⟩ := bc2 BK121.out; obtain ⟨hfz8_0, hfz8_1⟩ := bf2 BK121.out) | (go_at_call 44; (with_reducible refine (serinetteref01_Divisor.calls k a0_0 a0_1 t122 _ A6.out).mono ?_); rintro e w' ⟨rfl, ⟨nd, rfl⟩⟩)); go_ret; exact en_
    · rw [if_neg c5] at H; have c5b0 : decide (a0_0 ≤ 1073741824) = false := decide_eq_false c5; clear c5; obtain rfl := Option.some.inj H; go_enter Tryz.func28, Tryz.ntmps28; go_wp2_with (first | ((with_reducible refine gate_dst (N := 1) rfl ?_); refine bx_ 1 #[.int .i64 a0_0, .int .i64 a0_1] 23 ?_; intro gb121 hg w9 BK121 hb; have GE121 := hz_ hg HB; replace HB := hs HB hb; clear hb hg; obtain ⟨hcz10_0, hcz10_1⟩ := bc2 BK121.out; obtain ⟨hfz10_0, hfz10_1⟩ := bf2 BK121.out)); go_ret; exact en_
   · rw [if_neg c4] at H; have c4b0 : decide ((-1073741824) ≤ a0_0) = false := decide_eq_false c4; clear c4; obtain rfl := Option.some.inj H; go_enter Tryz.func28, Tryz.ntmps28; go_wp2_with (first | ((with_reducible refine gate_dst (N := 1) rfl ?_); refine bx_ 1 #[.int .i64 a0_0, .int .i64 a0_1] 23 ?_; intro gb121 hg w11 BK121 hb; have GE121 := hz_ hg HB; replace HB := hs HB hb; clear hb hg; obtain ⟨hcz12_0, hcz12_1⟩ := bc2 BK121.out; obtain ⟨hfz12_0, hfz12_1⟩ := bf2 BK121.out)); go_ret; exact en_
  · rw [if_neg c3] at H; have c3b0 : decide (a0_1 ≤ 1073741824) = false := decide_eq_false c3; clear c3; obtain rfl := Option.some.inj H; go_enter Tryz.func28, Tryz.ntmps28; go_wp2_with (first | ((with_reducible refine gate_dst (N := 1) rfl ?_); refine bx_ 1 #[.int .i64 a0_0, .int .i64 a0_1] 23 ?_; intro gb121 hg w13 BK121 hb; have GE121 := hz_ hg HB; replace HB := hs HB hb; clear hb hg; obtain ⟨hcz14_0, hcz14_1⟩ := bc2 BK121.out; obtain ⟨hfz14_0, hfz14_1⟩ := bf2 BK121.out)); go_ret; exact en_
 · rw [if_neg c2] at H; have c2b0 : decide (1 ≤ a0_1) = false := decide_eq_false c2; clear c2; obtain rfl := Option.some.inj H; go_enter Tryz.func28, Tryz.ntmps28; go_wp2_with (first | ((with_reducible refine gate_dst (N := 1) rfl ?_); refine bx_ 1 #[.int .i64 a0_0, .int .i64 a0_1] 23 ?_; intro gb121 hg w15 BK121 hb; have GE121 := hz_ hg HB; replace HB := hs HB hb; clear hb hg; obtain ⟨hcz16_0, hcz16_1⟩ := bc2 BK121.out; obtain ⟨hfz16_0, hfz16_1⟩ := bf2 BK121.out)); go_ret; exact en_
def serinetteref01_Valid.f (k : Nat) (a0_0 : Int) (a0_1 : Int) : Option (Bool) := (serinetteref01_Is.f k a0_0 a0_1).bind fun t124 => (if t124 = true then (some true) else (if a0_0 = 0 then (some (a0_1 == 0)) else (some false)))
theorem serinetteref01_Valid.mono : ∀ a0 a1 k, LeO (serinetteref01_Valid.f k a0 a1) (serinetteref01_Valid.f (k + 1) a0 a1) := by
 intro a0 a1 k
 unfold serinetteref01_Valid.f
 repeat' first
   | (with_reducible exact serinetteref01_Is.mono _ _ _)
   | (with_reducible exact LeO.refl _)
   | (with_reducible exact LeO.none _)
   | (with_reducible refine LeO.ite ?_ ?_)
   | (with_reducible refine LeO.bind ?_ (fun _ => ?_))
   | exact serinetteref01_Is.mono _ _ _
   | exact LeO.none _
   | refine LeO.ite ?_ ?_
   | refine LeO.bind ?_ (fun _ => ?_)
set_option maxHeartbeats 8000000 in
set_option maxRecDepth 100000 in
theorem serinetteref01_Valid.calls (k : Nat) (a0_0 : Int) (a0_1 : Int) (r : Bool) (w : World) (h : serinetteref01_Valid.f k a0_0 a0_1 = some r) :
  Calls Tryz.prog 27 #[.agg #[.int .i64 a0_0, .int .i64 a0_1]] w fun e w' => e = .returned (.bool r) ∧ Below w.heap.size w w' := by
 have hu23 := Tryz.underlying23; have HB := Aside0.mk (Below.refl w.heap.size w); have H : ((serinetteref01_Is.f k a0_0 a0_1).bind fun t124 => (if t124 = true then (some true) else (if a0_0 = 0 then (some (a0_1 == 0)) else (some false)))) = some r := h; clear h; replace H := Option.bind_eq_some_iff.mp H; obtain ⟨t124, A20, H⟩ := H; (try dsimp only at H); have A2 := Aside0.mk A20; clear A20; by_cases c3 : t124 = true
 · subst c3; rw [if_pos rfl] at H; obtain rfl := Option.some.inj H; go_enter Tryz.func27, Tryz.ntmps27; go_wp2_with (first | ((with_reducible refine gate_dst (N := 1) rfl ?_); refine bx_ 1 #[.int .i64 a0_0, .int .i64 a0_1] 23 ?_; intro gb123 hg w4 BK123 hb; have GE123 := hz_ hg HB; replace HB := hs HB hb; clear hb hg; obtain ⟨hcz5_0, hcz5_1⟩ := bc2 BK123.out; obtain ⟨hfz5_0, hfz5_1⟩ := bf2 BK123.out) | ((with_reducible refine gate_callee (f := 28) rfl ?_); refine goesL_ (some 4) rfl rfl Tryz.func28 (by kernel_rfl) rfl #[.agg #[.int .i64 a0_0, .int .i64 a0_1]] rfl (by (try simp only [mp]); first | done | rfl | (simp only [ld]; rfl)) ?_; (with_reducible refine (serinetteref01_Is.calls k a0_0 a0_1 true _ A2.out).mono ?_); rintro e w6 ⟨rfl, hb⟩; refine ⟨_, rfl, ?_⟩; replace BK123 := kb BK123 hb; replace HB := hb_ w hb; )); go_ret; exact en_
 ·
  replace c3 := Bool.eq_false_iff.mpr c3; subst c3; rw [if_neg (show ¬ (false = true) by decide)] at H; by_cases c7 : a0_0 = 0
  · rw [if_pos c7] at H; have c7b0 : (a0_0 == 0) = true := beq_iff_eq.mpr c7; have c7b1 : (a0_0 != 0) = false := bne_eq_false_iff_eq.mpr c7; clear c7; obtain rfl := Option.some.inj H; go_enter Tryz.func27, Tryz.ntmps27; go_wp2_with (first | ((with_reducible refine gate_dst (N := 1) rfl ?_); refine bx_ 1 #[.int .i64 a0_0, .int .i64 a0_1] 23 ?_; intro gb123 hg w8 BK123 hb; have GE123 := hz_ hg HB; replace HB := hs HB hb; clear hb hg; obtain ⟨hcz9_0, hcz9_1⟩ := bc2 BK123.out; obtain ⟨hfz9_0, hfz9_1⟩ := bf2 BK123.out) | ((with_reducible refine gate_callee (f := 28) rfl ?_); refine goesL_ (some 4) rfl rfl Tryz.func28 (by kernel_rfl) rfl #[.agg #[.int .i64 a0_0, .int .i64 a0_1]] rfl (by (try simp only [mp]); first | done | rfl | (simp only [ld]; rfl)) ?_; (with_reducible refine (serinetteref01_Is.calls k a0_0 a0_1 false _ A2.out).mono ?_); rintro e w10 ⟨rfl, hb⟩; refine ⟨_, rfl, ?_⟩; replace BK123 := kb BK123 hb; replace HB := hb_ w hb; obtain ⟨hcz11_0, hcz11_1⟩ := bc2 BK123.out; obtain ⟨hfz11_0, hfz11_1⟩ := bf2 BK123.out)); go_ret; exact en_
  · rw [if_neg c7] at H; have c7b0 : (a0_0 == 0) = false := beq_eq_false_iff_ne.mpr c7; have c7b1 : (a0_0 != 0) = true := bne_iff_ne.mpr c7; obtain rfl := Option.some.inj H; go_enter Tryz.func27, Tryz.ntmps27; go_wp2_with (first | ((with_reducible refine gate_dst (N := 1) rfl ?_); refine bx_ 1 #[.int .i64 a0_0, .int .i64 a0_1] 23 ?_; intro gb123 hg w12 BK123 hb; have GE123 := hz_ hg HB; replace HB := hs HB hb; clear hb hg; obtain ⟨hcz13_0, hcz13_1⟩ := bc2 BK123.out; obtain ⟨hfz13_0, hfz13_1⟩ := bf2 BK123.out) | ((with_reducible refine gate_callee (f := 28) rfl ?_); refine goesL_ (some 4) rfl rfl Tryz.func28 (by kernel_rfl) rfl #[.agg #[.int .i64 a0_0, .int .i64 a0_1]] rfl (by (try simp only [mp]); first | done | rfl | (simp only [ld]; rfl)) ?_; (with_reducible refine (serinetteref01_Is.calls k a0_0 a0_1 false _ A2.out).mono ?_); rintro e w14 ⟨rfl, hb⟩; refine ⟨_, rfl, ?_⟩; replace BK123 := kb BK123 hb; replace HB := hb_ w hb; obtain ⟨hcz15_0, hcz15_1⟩ := bc2 BK123.out; obtain ⟨hfz15_0, hfz15_1⟩ := bf2 BK123.out)); go_ret; exact en_
def serinetteref01_Cmp.j0 : Nat → Bool → Int → Int → Int → Int → Option (Int)
 | 0, _, _, _, _, _ => none
 | k + 1, x14, x126000, x126001, x127000, x127001 => if x14 = true then (some 0) else ((serinetteref01_Is.f k x126000 x126001).bind fun t129 => (if t129 = true then ((serinetteref01_Is.f k x127000 x127001).bind fun t130 => (if t130 = true then (if (wrap64 (x126000 * x127001)) < (wrap64 (x127000 * x126001)) then (some (-1)) else (if (wrap64 (x126000 * x127001)) > (wrap64 (x127000 * x126001)) then (some 1) else (some 0))) else (some 1))) else (some (-1))))
def serinetteref01_Cmp.f (k : Nat) (a0_0 : Int) (a0_1 : Int) (a1_0 : Int) (a1_1 : Int) : Option (Int) := (serinetteref01_Is.f k a0_0 a0_1).bind fun t127 => (if t127 = true then (serinetteref01_Cmp.j0 k false a0_0 a0_1 a1_0 a1_1) else ((serinetteref01_Is.f k a1_0 a1_1).bind fun t128 => (serinetteref01_Cmp.j0 k (!t128) a0_0 a0_1 a1_0 a1_1)))
theorem serinetteref01_Cmp.mono_l : ∀ k, (∀ y0 y1 y2 y3 y4, LeO (serinetteref01_Cmp.j0 k y0 y1 y2 y3 y4) (serinetteref01_Cmp.j0 (k + 1) y0 y1 y2 y3 y4))
 | 0 => fun _ _ _ _ _ r h => by simp [serinetteref01_Cmp.j0] at h
 | k + 1 => by
  have ih0 := serinetteref01_Cmp.mono_l k
  ·
   intro y0 y1 y2 y3 y4
   unfold serinetteref01_Cmp.j0
   repeat' first
   | (with_reducible exact ih0 _ _ _ _ _)
   | (with_reducible exact serinetteref01_Is.mono _ _ _)
   | (with_reducible exact LeO.refl _)
   | (with_reducible exact LeO.none _)
   | (with_reducible refine LeO.ite ?_ ?_)
   | (with_reducible refine LeO.bind ?_ (fun _ => ?_))
   | exact ih0 _ _ _ _ _
   | exact serinetteref01_Is.mono _ _ _
   | exact LeO.none _
   | refine LeO.ite ?_ ?_
   | refine LeO.bind ?_ (fun _ => ?_)
theorem serinetteref01_Cmp.mono : ∀ a0 a1 a2 a3 k, LeO (serinetteref01_Cmp.f k a0 a1 a2 a3) (serinetteref01_Cmp.f (k + 1) a0 a1 a2 a3) := by
 intro a0 a1 a2 a3 k
 have ih0 := serinetteref01_Cmp.mono_l k
 unfold serinetteref01_Cmp.f
 repeat' first
   | (with_reducible exact ih0 _ _ _ _ _)
   | (with_reducible exact serinetteref01_Is.mono _ _ _)
   | (with_reducible exact LeO.refl _)
   | (with_reducible exact LeO.none _)
   | (with_reducible refine LeO.ite ?_ ?_)
   | (with_reducible refine LeO.bind ?_ (fun _ => ?_))
   | exact ih0 _ _ _ _ _
   | exact serinetteref01_Is.mono _ _ _
   | exact LeO.none _
   | refine LeO.ite ?_ ?_
   | refine LeO.bind ?_ (fun _ => ?_)
set_option maxHeartbeats 8000000 in
set_option maxRecDepth 100000 in
theorem serinetteref01_Cmp.calls (k : Nat) (a0_0 : Int) (a0_1 : Int) (a1_0 : Int) (a1_1 : Int) (r : Int) (w : World) (h : serinetteref01_Cmp.f k a0_0 a0_1 a1_0 a1_1 = some r) :
  Calls Tryz.prog 29 #[.agg #[.int .i64 a0_0, .int .i64 a0_1], .agg #[.int .i64 a1_0, .int .i64 a1_1]] w fun e w' => e = .returned (.int .i64 r) ∧ Below w.heap.size w w' := by
 have hu23 := Tryz.underlying23; have HB := Aside0.mk (Below.refl w.heap.size w); have H : ((serinetteref01_Is.f k a0_0 a0_1).bind fun t127 => (if t127 = true then (serinetteref01_Cmp.j0 k false a0_0 a0_1 a1_0 a1_1) else ((serinetteref01_Is.f k a1_0 a1_1).bind fun t128 => (serinetteref01_Cmp.j0 k (!t128) a0_0 a0_1 a1_0 a1_1)))) = some r := h; clear h; have HC3 := Aside0.mk H; clear H; go_enter Tryz.func29, Tryz.ntmps29; go_upto_region 1 with (first | ((with_reducible refine gate_dst (N := 2) rfl ?_); refine bx_ 2 #[.int .i64 a0_0, .int .i64 a0_1] 23 ?_; intro gb125 hg w4 BK125 hb; have GE125 := hz_ hg HB; replace HB := hs HB hb; clear hb hg) | ((with_reducible refine gate_dst (N := 3) rfl ?_); refine bx_ 3 #[.int .i64 a1_0, .int .i64 a1_1] 23 ?_; intro gb126 hg w5 BK126 hb; have GE126 := ge_ w hg; have NB125_126 := nlk hg BK125; have NB126_125 := ngk hg BK125; replace BK125 := kb BK125 hb; replace HB := hb_ w hb; clear hb hg)); (try simp only [Act.put, List.setIfInBounds_toArray, List.set_cons_zero, List.set_cons_succ])
 go_cut [14] (fun v14 wc => ∃ (kq : Nat) (x14_2 : Bool), v14 = .bool x14_2 ∧ Aside0 (serinetteref01_Cmp.j0 kq x14_2 a0_0 a0_1 a1_0 a1_1 = some r) ∧ Aside0 (kq ≤ k) ∧ Aside0 (wc.heap[gb125]? = some (.cells #[.int .i64 a0_0, .int .i64 a0_1] 23 (0, 0))) ∧ Aside0 (wc.heap[gb126]? = some (.cells #[.int .i64 a1_0, .int .i64 a1_1] 23 (0, 0))) ∧ Aside0 (Below w.heap.size w wc))
 case first =>
  have H := HC3.out; clear HC3; replace H := Option.bind_eq_some_iff.mp H; obtain ⟨t127, A60, H⟩ := H; (try dsimp only at H); have A6 := Aside0.mk A60; clear A60; by_cases c7 : t127 = true
  ·
   subst c7; rw [if_pos rfl] at H; have H' := Aside0.mk H; clear H; have hnb8 := NB125_126.out; have hnc8 := NB126_125.out; obtain ⟨hcz9_0, hcz9_1⟩ := bc2 BK125.out; obtain ⟨hfz9_0, hfz9_1⟩ := bf2 BK125.out; go_wp2_with (first | ((with_reducible refine gate_callee (f := 28) rfl ?_); refine goesL_ (some 8) rfl rfl Tryz.func28 (by kernel_rfl) rfl #[.agg #[.int .i64 a0_0, .int .i64 a0_1]] rfl (by (try simp only [mp]); first | done | rfl | (simp only [ld]; rfl)) ?_; (with_reducible refine (serinetteref01_Is.calls k a0_0 a0_1 true _ A6.out).mono ?_); rintro e w10 ⟨rfl, hb⟩; refine ⟨_, rfl, ?_⟩; replace BK125 := kb BK125 hb; replace BK126 := kb BK126 hb; replace HB := hb_ w hb; )); go_meet
   case rel => exact ⟨_, (false), (by first | rfl | (simp; done) | (simp [*]; done)), H', ⟨by first | omega | exact Nat.le_refl _⟩, ⟨bk BK125.out⟩, ⟨bk BK126.out⟩, ab2_⟩
  ·
   replace c7 := Bool.eq_false_iff.mpr c7; subst c7; rw [if_neg (show ¬ (false = true) by decide)] at H; replace H := Option.bind_eq_some_iff.mp H; obtain ⟨t128, A110, H⟩ := H; (try dsimp only at H); have A11 := Aside0.mk A110; clear A110; have H' := Aside0.mk H; clear H; have hnb12 := NB125_126.out; have hnc12 := NB126_125.out; obtain ⟨hcz13_0, hcz13_1⟩ := bc2 BK125.out; obtain ⟨hfz13_0, hfz13_1⟩ := bf2 BK125.out; go_wp2_with (first | ((with_reducible refine gate_callee (f := 28) rfl ?_); refine goesL_ (some 8) rfl rfl Tryz.func28 (by kernel_rfl) rfl #[.agg #[.int .i64 a0_0, .int .i64 a0_1]] rfl (by (try simp only [mp]); first | done | rfl | (simp only [ld]; rfl)) ?_; (with_reducible refine (serinetteref01_Is.calls k a0_0 a0_1 false _ A6.out).mono ?_); rintro e w14 ⟨rfl, hb⟩; refine ⟨_, rfl, ?_⟩; replace BK125 := kb BK125 hb; replace BK126 := kb BK126 hb; replace HB := hb_ w hb; obtain ⟨hcz15_0, hcz15_1⟩ := bc2 BK126.out; obtain ⟨hfz15_0, hfz15_1⟩ := bf2 BK126.out) | (go_at_call 28; (with_reducible refine (serinetteref01_Is.calls k a1_0 a1_1 t128 _ A11.out).mono ?_); rintro e w16 ⟨rfl, hb⟩; replace BK125 := kb BK125 hb; replace BK126 := kb BK126 hb; replace HB := hb_ w hb; )); go_meet
   case rel => exact ⟨_, (!t128), (by first | rfl | (simp; done) | (simp [*]; done)), H', ⟨by first | omega | exact Nat.le_refl _⟩, ⟨bk BK125.out⟩, ⟨bk BK126.out⟩, ab2_⟩
 case rest =>
  clear HC3; obtain ⟨kq, x14_2, rfl, HA, HJ2, BK125, BK126, HB⟩ := hcut; cases kq with
  | zero => exact absurd HA.out (by simp [serinetteref01_Cmp.j0])
  | succ kj2 =>
   have H := HA.out; clear HA; simp only [serinetteref01_Cmp.j0] at H; by_cases c17 : x14_2 = true
   · subst c17; rw [if_pos rfl] at H; obtain rfl := Option.some.inj H; go_wp2; go_ret; exact en_
   ·
    replace c17 := Bool.eq_false_iff.mpr c17; subst c17; rw [if_neg (show ¬ (false = true) by decide)] at H; replace H := Option.bind_eq_some_iff.mp H; obtain ⟨t129, A180, H⟩ := H; (try dsimp only at H); have A18 := Aside0.mk A180; clear A180; by_cases c19 : t129 = true
    ·
     subst c19; rw [if_pos rfl] at H; replace H := Option.bind_eq_some_iff.mp H; obtain ⟨t130, A200, H⟩ := H; (try dsimp only at H); have A20 := Aside0.mk A200; clear A200; by_cases c21 : t130 = true
     ·
      subst c21; rw [if_pos rfl] at H; by_cases c22 : (wrap64 (a0_0 * a1_1)) < (wrap64 (a1_0 * a0_1))
      · rw [if_pos c22] at H; have c22b0 : decide ((wrap64 (a0_0 * a1_1)) < (wrap64 (a1_0 * a0_1))) = true := decide_eq_true c22; clear c22; obtain rfl := Option.some.inj H; have hnb23 := NB125_126.out; have hnc23 := NB126_125.out; obtain ⟨hcz24_0, hcz24_1⟩ := bc2 BK125.out; obtain ⟨hfz24_0, hfz24_1⟩ := bf2 BK125.out; go_wp2_with (first | ((with_reducible refine gate_callee (f := 28) rfl ?_); refine goesL_ (some 16) rfl rfl Tryz.func28 (by kernel_rfl) rfl #[.agg #[.int .i64 a0_0, .int .i64 a0_1]] rfl (by (try simp only [mp]); first | done | rfl | (simp only [ld]; rfl)) ?_; (with_reducible refine (serinetteref01_Is.calls kj2 a0_0 a0_1 true _ A18.out).mono ?_); rintro e w25 ⟨rfl, hb⟩; refine ⟨_, rfl, ?_⟩; replace BK125 := kb BK125 hb; replace BK126 := kb BK126 hb; replace HB := hb_ w hb; obtain ⟨hcz26_0, hcz26_1⟩ := bc2 BK126.out; obtain ⟨hfz26_0, hfz26_1⟩ := bf2 BK126.out) | ((with_reducible refine gate_callee (f := 28) rfl ?_); refine goesL_ (some 19) rfl rfl Tryz.func28 (by kernel_rfl) rfl #[.agg #[.int .i64 a1_0, .int .i64 a1_1]] rfl (by (try simp only [mp]); first | done | rfl | (simp only [ld]; rfl)) ?_; (with_reducible refine (serinetteref01_Is.calls kj2 a1_0 a1_1 true _ A20.out).mono ?_); rintro e w27 ⟨rfl, hb⟩; refine ⟨_, rfl, ?_⟩; replace BK125 := kb BK125 hb; replace BK126 := kb BK126 hb; replace HB := hb_ w hb; obtain ⟨hcz28_0, hcz28_1⟩ := bc2 BK125.out; obtain ⟨hfz28_0, hfz28_1⟩ := bf2 BK125.out; obtain ⟨hcz29_0, hcz29_1⟩ := bc2 BK126.out; obtain ⟨hfz29_0, hfz29_1⟩ := bf2 BK126.out)); go_ret; exact en_
      ·
       rw [if_neg c22] at H; have c22b0 : decide ((wrap64 (a0_0 * a1_1)) < (wrap64 (a1_0 * a0_1))) = false := decide_eq_false c22; clear c22; by_cases c30 : (wrap64 (a0_0 * a1_1)) > (wrap64 (a1_0 * a0_1))
       · rw [if_pos c30] at H; have c30b0 : decide ((wrap64 (a1_0 * a0_1)) < (wrap64 (a0_0 * a1_1))) = true := decide_eq_true c30; clear c30; obtain rfl := Option.some.inj H; have hnb31 := NB125_126.out; have hnc31 := NB126_125.out; obtain ⟨hcz32_0, hcz32_1⟩ := bc2 BK125.out; obtain ⟨hfz32_0, hfz32_1⟩ := bf2 BK125.out; go_wp2_with (first | ((with_reducible refine gate_callee (f := 28) rfl ?_); refine goesL_ (some 16) rfl rfl Tryz.func28 (by kernel_rfl) rfl #[.agg #[.int .i64 a0_0, .int .i64 a0_1]] rfl (by (try simp only [mp]); first | done | rfl | (simp only [ld]; rfl)) ?_; (with_reducible refine (serinetteref01_Is.calls kj2 a0_0 a0_1 true _ A18.out).mono ?_); rintro e w33 ⟨rfl, hb⟩; refine ⟨_, rfl, ?_⟩; replace BK125 := kb BK125 hb; replace BK126 := kb BK126 hb; replace HB := hb_ w hb; obtain ⟨hcz34_0, hcz34_1⟩ := bc2 BK126.out; obtain ⟨hfz34_0, hfz34_1⟩ := bf2 BK126.out) | ((with_reducible refine gate_callee (f := 28) rfl ?_); refine goesL_ (some 19) rfl rfl Tryz.func28 (by kernel_rfl) rfl #[.agg #[.int .i64 a1_0, .int .i64 a1_1]] rfl (by (try simp only [mp]); first | done | rfl | (simp only [ld]; rfl)) ?_; (with_reducible refine (serinetteref01_Is.calls kj2 a1_0 a1_1 true _ A20.out).mono ?_); rintro e w35 ⟨rfl, hb⟩; refine ⟨_, rfl, ?_⟩; replace BK125 := kb BK125 hb; replace BK126 := kb BK126 hb; replace HB := hb_ w hb; obtain ⟨hcz36_0, hcz36_1⟩ := bc2 BK125.out; obtain ⟨hfz36_0, hfz36_1⟩ := bf2 BK125.out; obtain ⟨hcz37_0, hcz37_1⟩ := bc2 BK126.out; obtain ⟨hfz37_0, hfz37_1⟩ := bf2 BK126.out)); go_ret; exact en_
       · rw [if_neg c30] at H; have c30b0 : decide ((wrap64 (a1_0 * a0_1)) < (wrap64 (a0_0 * a1_1))) = false := decide_eq_false c30; clear c30; obtain rfl := Option.some.inj H; have hnb38 := NB125_126.out; have hnc38 := NB126_125.out; obtain ⟨hcz39_0, hcz39_1⟩ := bc2 BK125.out; obtain ⟨hfz39_0, hfz39_1⟩ := bf2 BK125.out; go_wp2_with (first | ((with_reducible refine gate_callee (f := 28) rfl ?_); refine goesL_ (some 16) rfl rfl Tryz.func28 (by kernel_rfl) rfl #[.agg #[.int .i64 a0_0, .int .i64 a0_1]] rfl (by (try simp only [mp]); first | done | rfl | (simp only [ld]; rfl)) ?_; (with_reducible refine (serinetteref01_Is.calls kj2 a0_0 a0_1 true _ A18.out).mono ?_); rintro e w40 ⟨rfl, hb⟩; refine ⟨_, rfl, ?_⟩; replace BK125 := kb BK125 hb; replace BK126 := kb BK126 hb; replace HB := hb_ w hb; obtain ⟨hcz41_0, hcz41_1⟩ := bc2 BK126.out; obtain ⟨hfz41_0, hfz41_1⟩ := bf2 BK126.out) | ((with_reducible refine gate_callee (f := 28) rfl ?_); refine goesL_ (some 19) rfl rfl Tryz.func28 (by kernel_rfl) rfl #[.agg #[.int .i64 a1_0, .int .i64 a1_1]] rfl (by (try simp only [mp]); first | done | rfl | (simp only [ld]; rfl)) ?_; (with_reducible refine (serinetteref01_Is.calls kj2 a1_0 a1_1 true _ A20.out).mono ?_); rintro e w42 ⟨rfl, hb⟩; refine ⟨_, rfl, ?_⟩; replace BK125 := kb BK125 hb; replace BK126 := kb BK126 hb; replace HB := hb_ w hb; obtain ⟨hcz43_0, hcz43_1⟩ := bc2 BK125.out; obtain ⟨hfz43_0, hfz43_1⟩ := bf2 BK125.out; obtain ⟨hcz44_0, hcz44_1⟩ := bc2 BK126.out; obtain ⟨hfz44_0, hfz44_1⟩ := bf2 BK126.out)); go_ret; exact en_
     · replace c21 := Bool.eq_false_iff.mpr c21; subst c21; rw [if_neg (show ¬ (false = true) by decide)] at H; obtain rfl := Option.some.inj H; have hnb45 := NB125_126.out; have hnc45 := NB126_125.out; obtain ⟨hcz46_0, hcz46_1⟩ := bc2 BK125.out; obtain ⟨hfz46_0, hfz46_1⟩ := bf2 BK125.out; go_wp2_with (first | ((with_reducible refine gate_callee (f := 28) rfl ?_); refine goesL_ (some 16) rfl rfl Tryz.func28 (by kernel_rfl) rfl #[.agg #[.int .i64 a0_0, .int .i64 a0_1]] rfl (by (try simp only [mp]); first | done | rfl | (simp only [ld]; rfl)) ?_; (with_reducible refine (serinetteref01_Is.calls kj2 a0_0 a0_1 true _ A18.out).mono ?_); rintro e w47 ⟨rfl, hb⟩; refine ⟨_, rfl, ?_⟩; replace BK125 := kb BK125 hb; replace BK126 := kb BK126 hb; replace HB := hb_ w hb; obtain ⟨hcz48_0, hcz48_1⟩ := bc2 BK126.out; obtain ⟨hfz48_0, hfz48_1⟩ := bf2 BK126.out) | ((with_reducible refine gate_callee (f := 28) rfl ?_); refine goesL_ (some 19) rfl rfl Tryz.func28 (by kernel_rfl) rfl #[.agg #[.int .i64 a1_0, .int .i64 a1_1]] rfl (by (try simp only [mp]); first | done | rfl | (simp only [ld]; rfl)) ?_; (with_reducible refine (serinetteref01_Is.calls kj2 a1_0 a1_1 false _ A20.out).mono ?_); rintro e w49 ⟨rfl, hb⟩; refine ⟨_, rfl, ?_⟩; replace BK125 := kb BK125 hb; replace BK126 := kb BK126 hb; replace HB := hb_ w hb; )); go_ret; exact en_
    · replace c19 := Bool.eq_false_iff.mpr c19; subst c19; rw [if_neg (show ¬ (false = true) by decide)] at H; obtain rfl := Option.some.inj H; have hnb50 := NB125_126.out; have hnc50 := NB126_125.out; obtain ⟨hcz51_0, hcz51_1⟩ := bc2 BK125.out; obtain ⟨hfz51_0, hfz51_1⟩ := bf2 BK125.out; go_wp2_with (first | ((with_reducible refine gate_callee (f := 28) rfl ?_); refine goesL_ (some 16) rfl rfl Tryz.func28 (by kernel_rfl) rfl #[.agg #[.int .i64 a0_0, .int .i64 a0_1]] rfl (by (try simp only [mp]); first | done | rfl | (simp only [ld]; rfl)) ?_; (with_reducible refine (serinetteref01_Is.calls kj2 a0_0 a0_1 false _ A18.out).mono ?_); rintro e w52 ⟨rfl, hb⟩; refine ⟨_, rfl, ?_⟩; replace BK125 := kb BK125 hb; replace BK126 := kb BK126 hb; replace HB := hb_ w hb; )); go_ret; exact en_
def serinetteref03_Valid.j0 : Nat → Bool → Int → Int → Int → Int → Int → Bool → Bool → Option (Bool)
 | 0, _, _, _, _, _, _, _, _ => none
 | k + 1, x39, x132000, x132001, x132002, x132003, x132004, x132005, x132006 => if x39 = true then (some false) else ((serinetteref01_Is.f k x132000 x132001).bind fun t138 => (if t138 = true then ((serinetteref01_Is.f k x132002 x132003).bind fun t139 => (if t139 = true then ((serinetteref01_Cmp.f k x132000 x132001 x132002 x132003).bind fun t140 => (some (decide (t140 ≤ 0)))) else (some true))) else (some true)))
def serinetteref03_Valid.f (k : Nat) (a0_0 : Int) (a0_1 : Int) (a0_2 : Int) (a0_3 : Int) (a0_4 : Int) (a0_5 : Bool) (a0_6 : Bool) : Option (Bool) := if a0_6 = true then ((serinetteref01_None.f).bind fun bt132 => (if (a0_0 == bt132.1 && (a0_1 == bt132.2)) = true then ((serinetteref01_None.f).bind fun bt134 => (if (a0_2 == bt134.1 && (a0_3 == bt134.2)) = true then (some (a0_4 == 0)) else (some false))) else (some false))) else ((serinetteref01_Valid.f k a0_0 a0_1).bind fun t136 => (if t136 = true then ((serinetteref01_Valid.f k a0_2 a0_3).bind fun t137 => (if t137 = true then (if a0_4 < 0 then (serinetteref03_Valid.j0 k true a0_0 a0_1 a0_2 a0_3 a0_4 a0_5 a0_6) else (serinetteref03_Valid.j0 k (decide (a0_4 > 1073741824)) a0_0 a0_1 a0_2 a0_3 a0_4 a0_5 a0_6)) else (serinetteref03_Valid.j0 k true a0_0 a0_1 a0_2 a0_3 a0_4 a0_5 a0_6))) else (serinetteref03_Valid.j0 k true a0_0 a0_1 a0_2 a0_3 a0_4 a0_5 a0_6)))
theorem serinetteref03_Valid.mono_l : ∀ k, (∀ y0 y1 y2 y3 y4 y5 y6 y7, LeO (serinetteref03_Valid.j0 k y0 y1 y2 y3 y4 y5 y6 y7) (serinetteref03_Valid.j0 (k + 1) y0 y1 y2 y3 y4 y5 y6 y7))
 | 0 => fun _ _ _ _ _ _ _ _ r h => by simp [serinetteref03_Valid.j0] at h
 | k + 1 => by
  have ih0 := serinetteref03_Valid.mono_l k
  ·
   intro y0 y1 y2 y3 y4 y5 y6 y7
   unfold serinetteref03_Valid.j0
   repeat' first
   | (with_reducible exact ih0 _ _ _ _ _ _ _ _)
   | (with_reducible exact serinetteref01_Cmp.mono _ _ _ _ _)
   | (with_reducible exact serinetteref01_Is.mono _ _ _)
   | (with_reducible exact serinetteref01_Valid.mono _ _ _)
   | (with_reducible exact LeO.refl _)
   | (with_reducible exact LeO.none _)
   | (with_reducible refine LeO.ite ?_ ?_)
   | (with_reducible refine LeO.bind ?_ (fun _ => ?_))
   | exact ih0 _ _ _ _ _ _ _ _
   | exact serinetteref01_Cmp.mono _ _ _ _ _
   | exact serinetteref01_Is.mono _ _ _
   | exact serinetteref01_Valid.mono _ _ _
   | exact LeO.none _
   | refine LeO.ite ?_ ?_
   | refine LeO.bind ?_ (fun _ => ?_)
theorem serinetteref03_Valid.mono : ∀ a0 a1 a2 a3 a4 a5 a6 k, LeO (serinetteref03_Valid.f k a0 a1 a2 a3 a4 a5 a6) (serinetteref03_Valid.f (k + 1) a0 a1 a2 a3 a4 a5 a6) := by
 intro a0 a1 a2 a3 a4 a5 a6 k
 have ih0 := serinetteref03_Valid.mono_l k
 unfold serinetteref03_Valid.f
 repeat' first
   | (with_reducible exact ih0 _ _ _ _ _ _ _ _)
   | (with_reducible exact serinetteref01_Cmp.mono _ _ _ _ _)
   | (with_reducible exact serinetteref01_Is.mono _ _ _)
   | (with_reducible exact serinetteref01_Valid.mono _ _ _)
   | (with_reducible exact LeO.refl _)
   | (with_reducible exact LeO.none _)
   | (with_reducible refine LeO.ite ?_ ?_)
   | (with_reducible refine LeO.bind ?_ (fun _ => ?_))
   | exact ih0 _ _ _ _ _ _ _ _
   | exact serinetteref01_Cmp.mono _ _ _ _ _
   | exact serinetteref01_Is.mono _ _ _
   | exact serinetteref01_Valid.mono _ _ _
   | exact LeO.none _
   | refine LeO.ite ?_ ?_
   | refine LeO.bind ?_ (fun _ => ?_)
def serinetteref03_Valid.T2 : Bool × List (List Nat × List Nat) := (true, [([], []), ([0], [0]), ([], []), ([1, 2], [1, 2]), ([3, 2], [3]), ([4], [4]), ([5, 4], [4, 5]), ([4, 4], [4]), ([6, 7, 4], [4, 6, 7]), ([4, 8], [4, 8]), ([9, 7], [9]), ([10], [10]), ([11, 10], [10, 11]), ([12, 10], [10, 12]), ([10, 13], [10, 13]), ([14, 10, 0, 1, 2, 3, 4, 5, 6, 7, 8, 9, 10, 11, 12, 13, 14], [14])])
def serinetteref03_Valid.B2 : List Nat := [0, 1, 0, 7, 15, 31, 63, 31, 255, 511, 1023, 2047, 4095, 8191, 16383, 32767]
theorem serinetteref03_Valid.tab2 : rtab .any (opsOf Tryz.f5 2) = serinetteref03_Valid.T2 := by kernel_rfl
theorem serinetteref03_Valid.bits2 : waitsOk serinetteref03_Valid.T2.2 serinetteref03_Valid.B2 = true := by kernel_rfl
end Go.Proofs.YtlibjgmnookakaaGreatDoor.SSpanSays
namespace Go.Proofs.YtlibjgmnookakaaGreatDoor.SSpanSays
open Go.RowKit Go.Proofs.YtlibjgmnookakaaGreatDoor.Wd.PrintWords Go.Proofs.YtlibjgmnookakaaGreatDoor.Wd.PrintLast Go.Proofs.YtlibjgmnookakaaGreatDoor.Wd.PrintMore
attribute [local go_sem] max2_int min2_int max_two min_two max_three min_three max_four min_four
attribute [local go_sem] max2_int min2_int max_two min_two max_three min_three max_four min_four
attribute [local go_sem] max2_int min2_int max_two min_two max_three min_three max_four min_four
attribute [local go_sem high] eqA23
attribute [local go_sem high] eqA25
set_option maxHeartbeats 8000000 in
set_option maxRecDepth 100000 in
theorem serinetteref03_Valid.calls (k : Nat) (a0_0 : Int) (a0_1 : Int) (a0_2 : Int) (a0_3 : Int) (a0_4 : Int) (a0_5 : Bool) (a0_6 : Bool) (r : Bool) (w : World) (h : serinetteref03_Valid.f k a0_0 a0_1 a0_2 a0_3 a0_4 a0_5 a0_6 = some r) :
  Calls Tryz.prog 5 #[.agg #[.int .i64 a0_0, .int .i64 a0_1, .int .i64 a0_2, .int .i64 a0_3, .int .i64 a0_4, .bool a0_5, .bool a0_6]] w fun e w' => e = .returned (.bool r) ∧ Below w.heap.size w w' := by
 have hu25 := Tryz.underlying25; have hu23 := Tryz.underlying23; have HB := Aside0.mk (Below.refl w.heap.size w); have H : (if a0_6 = true then ((serinetteref01_None.f).bind fun bt132 => (if (a0_0 == bt132.1 && (a0_1 == bt132.2)) = true then ((serinetteref01_None.f).bind fun bt134 => (if (a0_2 == bt134.1 && (a0_3 == bt134.2)) = true then (some (a0_4 == 0)) else (some false))) else (some false))) else ((serinetteref01_Valid.f k a0_0 a0_1).bind fun t136 => (if t136 = true then ((serinetteref01_Valid.f k a0_2 a0_3).bind fun t137 => (if t137 = true then (if a0_4 < 0 then (serinetteref03_Valid.j0 k true a0_0 a0_1 a0_2 a0_3 a0_4 a0_5 a0_6) else (serinetteref03_Valid.j0 k (decide (a0_4 > 1073741824)) a0_0 a0_1 a0_2 a0_3 a0_4 a0_5 a0_6)) else (serinetteref03_Valid.j0 k true a0_0 a0_1 a0_2 a0_3 a0_4 a0_5 a0_6))) else (serinetteref03_Valid.j0 k true a0_0 a0_1 a0_2 a0_3 a0_4 a0_5 a0_6)))) = some r := h; clear h; by_cases c2 : a0_6 = true
 ·
  subst c2; rw [if_pos rfl] at H; replace H := Option.bind_eq_some_iff.mp H; obtain ⟨⟨t132, t133⟩, A30, H⟩ := H; (try dsimp only at H); have A3 := Aside0.mk A30; clear A30; by_cases c4 : (a0_0 == t132 && (a0_1 == t133)) = true
  ·
   rw [if_pos c4] at H; have c4b0 : (a0_0 == t132 && (a0_1 == t133)) = true := c4; (try (have c4b1 : decide (a0_0 = t132 && (a0_1 == t133)) = true := by simpa using c4)); (try (have c4b2 : (a0_0 == t132 && (a0_1 == t133)) = true := by simpa using c4)); clear c4; replace H := Option.bind_eq_some_iff.mp H; obtain ⟨⟨t134, t135⟩, A50, H⟩ := H; (try dsimp only at H); have A5 := Aside0.mk A50; clear A50; by_cases c6 : (a0_2 == t134 && (a0_3 == t135)) = true
   ·
    rw [if_pos c6] at H; have c6b0 : (a0_2 == t134 && (a0_3 == t135)) = true := c6; (try (have c6b1 : decide (a0_2 = t134 && (a0_3 == t135)) = true := by simpa using c6)); (try (have c6b2 : (a0_2 == t134 && (a0_3 == t135)) = true := by simpa using c6)); clear c6; obtain rfl := Option.some.inj H; go_enter Tryz.func5, Tryz.ntmps5; (try go_wp2_with (first | ((with_reducible refine gate_dst (N := 1) rfl ?_); refine bx_ 1 #[.int .i64 a0_0, .int .i64 a0_1, .int .i64 a0_2, .int .i64 a0_3, .int .i64 a0_4, .bool a0_5, .bool true] 25 ?_; intro gb131 hg w7 BK131 hb; have GE131 := hz_ hg HB; replace HB := hs HB hb; clear hb hg; obtain ⟨hcz8_0, hcz8_1, hcz8_2, hcz8_3, hcz8_4, hcz8_5, hcz8_6⟩ := bc7 BK131.out; obtain ⟨hfz8_0, hfz8_1, hfz8_2, hfz8_3, hfz8_4, hfz8_5, hfz8_6⟩ := bf7 BK131.out))); replace BK131 := kd BK131; replace HB := Aside0.mk (below_drew1 HB.out); refine start_ (n := 16) (S := fun w' => w'.cell? ⟨gb131, 0, none⟩ = some (.int .i64 a0_0) ∧ w'.cell? ⟨gb131, 1, none⟩ = some (.int .i64 a0_1) ∧ w'.cell? ⟨gb131, 2, none⟩ = some (.int .i64 a0_2) ∧ w'.cell? ⟨gb131, 3, none⟩ = some (.int .i64 a0_3) ∧ w'.cell? ⟨gb131, 4, none⟩ = some (.int .i64 a0_4) ∧ w'.cell? ⟨gb131, 5, none⟩ = some (.bool a0_5) ∧ w'.cell? ⟨gb131, 6, none⟩ = some (.bool true)) (ds := []) (bA 16 0) (by kernel_rfl) rfl rfl ⟨(blk_cell BK131.out 0).trans rfl, (blk_cell BK131.out 1).trans rfl, (blk_cell BK131.out 2).trans rfl, (blk_cell BK131.out 3).trans rfl, (blk_cell BK131.out 4).trans rfl, (blk_cell BK131.out 5).trans rfl, (blk_cell BK131.out 6).trans rfl⟩ (fun hHeld => ?_); refine with_tabW serinetteref03_Valid.tab2 serinetteref03_Valid.bits2 (fun HT_ HW_ => ?_); generalize w7.drew = w9 at BK131 HB hHeld ⊢; have hH0 := hHeld; have HBW := hbw w9; refine pure_ (i := 0) (N := some 5) (v := ?_) (a' := ?_) (bA 16 1) rfl rfl (any_of HT_.out (by kernel_rfl)) (fun _ _ _ h => h) (Or.inl ⟨by rfl, ?_⟩) ?_ ?_; rotate_left
    · intro w'; go_simp; with_reducible rfl
    rotate_left
    · simp only [ap]; rfl
    refine take_ (i := 1) (N := some 6) (v := ?_) (a' := ?_) (bA 16 3) rfl rfl (take_ofW HT_.out HW_.out (by kernel_rfl)) (fun _ _ _ h => h) (Or.inl ⟨by rfl, ?_⟩) hHeld ?_ ?_; rotate_left
    · rintro w' ⟨s0, s1, s2, s3, s4, s5, s6⟩; go_simp; with_reducible rfl
    rotate_left
    · simp only [ap]; rfl
    refine one_ (i := 2) (N := some 7) (bA 16 7) rfl rfl (one_of HT_.out (by kernel_rfl)) (by decide) (fun K hK => ?_); refine goes_ Tryz.func26 (by kernel_rfl) rfl #[] (by rfl) rfl rfl (by (try simp only [mp]); first | done | rfl | (simp only [ld]; rfl)) ?_; (with_reducible refine (serinetteref01_None.calls  t132 t133 _ A3.out).mono ?_); rintro e w10 ⟨rfl, hb⟩; refine ⟨_, rfl, ?_⟩; replace HBW := hs HBW hb; clear hb; refine hK.out _ _ (hs7 HBW.out hH0) (fun hHeld => ?_); clear hK K; refine norm_ (a' := ?_) ?_ ?_; rotate_left
    · (show Act.put _ (some 7) _ = _); simp only [ap]; rfl
    refine pure_ (i := 3) (N := some 8) (v := ?_) (a' := ?_) (bA 16 15) rfl rfl (any_of HT_.out (by kernel_rfl)) (fun _ _ _ h => h) (Or.inl ⟨by rfl, ?_⟩) ?_ ?_; rotate_left
    · intro w'; go_simp; with_reducible rfl
    rotate_left
    · simp only [ap]; rfl
    refine pure_ (i := 4) (N := some 9) (v := ?_) (a' := ?_) (bA 16 31) rfl rfl (any_of HT_.out (by kernel_rfl)) (fun _ _ _ h => h) (Or.inl ⟨by rfl, ?_⟩) ?_ ?_; rotate_left
    · intro w'; go_simp; with_reducible rfl
    rotate_left
    · simp only [ap]; rfl
    refine pure_ (i := 5) (N := some 10) (v := ?_) (a' := ?_) (bA 16 63) rfl rfl (any_of HT_.out (by kernel_rfl)) (fun _ _ _ h => h) (Or.inl ⟨by rfl, ?_⟩) ?_ ?_; rotate_left
    · intro w'; go_simp; with_reducible rfl
    rotate_left
    · simp only [ap]; rfl
    refine take_ (i := 6) (N := some 11) (v := ?_) (a' := ?_) (bA 16 127) rfl rfl (take_ofW HT_.out HW_.out (by kernel_rfl)) (fun _ _ _ h => h) (Or.inl ⟨by rfl, ?_⟩) hHeld ?_ ?_; rotate_left
    · rintro w' ⟨s0, s1, s2, s3, s4, s5, s6⟩; go_simp; with_reducible rfl
    rotate_left
    · simp only [ap]; rfl
    refine one_ (i := 7) (N := some 12) (bA 16 255) rfl rfl (one_of HT_.out (by kernel_rfl)) (by decide) (fun K hK => ?_); refine goes_ Tryz.func26 (by kernel_rfl) rfl #[] (by rfl) rfl rfl (by (try simp only [mp]); first | done | rfl | (simp only [ld]; rfl)) ?_; (with_reducible refine (serinetteref01_None.calls  t134 t135 _ A5.out).mono ?_); rintro e w11 ⟨rfl, hb⟩; refine ⟨_, rfl, ?_⟩; replace HBW := hs HBW hb; clear hb; refine hK.out _ _ (hs7 HBW.out hH0) (fun hHeld => ?_); clear hK K; refine norm_ (a' := ?_) ?_ ?_; rotate_left
    · (show Act.put _ (some 12) _ = _); simp only [ap]; rfl
    refine pure_ (i := 8) (N := some 13) (v := ?_) (a' := ?_) (bA 16 511) rfl rfl (any_of HT_.out (by kernel_rfl)) (fun _ _ _ h => h) (Or.inl ⟨by rfl, ?_⟩) ?_ ?_; rotate_left
    · intro w'; go_simp; with_reducible rfl
    rotate_left
    · simp only [ap]; rfl
    refine pure_ (i := 9) (N := some 14) (v := ?_) (a' := ?_) (bA 16 1023) rfl rfl (any_of HT_.out (by kernel_rfl)) (fun _ _ _ h => h) (Or.inl ⟨by rfl, ?_⟩) ?_ ?_; rotate_left
    · intro w'; go_simp; with_reducible rfl
    rotate_left
    · simp only [ap]; rfl
    refine pure_ (i := 10) (N := some 15) (v := ?_) (a' := ?_) (bA 16 2047) rfl rfl (any_of HT_.out (by kernel_rfl)) (fun _ _ _ h => h) (Or.inl ⟨by rfl, ?_⟩) ?_ ?_; rotate_left
    · intro w'; go_simp; with_reducible rfl
    rotate_left
    · simp only [ap]; rfl
    refine pure_ (i := 11) (N := some 16) (v := ?_) (a' := ?_) (bA 16 4095) rfl rfl (any_of HT_.out (by kernel_rfl)) (fun _ _ _ h => h) (Or.inl ⟨by rfl, ?_⟩) ?_ ?_; rotate_left
    · intro w'; go_simp; with_reducible rfl
    rotate_left
    · simp only [ap]; rfl
    refine take_ (i := 12) (N := some 17) (v := ?_) (a' := ?_) (bA 16 8191) rfl rfl (take_ofW HT_.out HW_.out (by kernel_rfl)) (fun _ _ _ h => h) (Or.inl ⟨by rfl, ?_⟩) hHeld ?_ ?_; rotate_left
    · rintro w' ⟨s0, s1, s2, s3, s4, s5, s6⟩; go_simp; with_reducible rfl
    rotate_left
    · simp only [ap]; rfl
    refine pure_ (i := 13) (N := some 18) (v := ?_) (a' := ?_) (bA 16 16383) rfl rfl (any_of HT_.out (by kernel_rfl)) (fun _ _ _ h => h) (Or.inl ⟨by rfl, ?_⟩) ?_ ?_; rotate_left
    · intro w'; go_simp; with_reducible rfl
    rotate_left
    · simp only [ap]; rfl
    refine pure_ (i := 14) (N := some 19) (v := ?_) (a' := ?_) (bA 16 32767) rfl rfl (any_of HT_.out (by kernel_rfl)) (fun _ _ _ h => h) (Or.inl ⟨by rfl, ?_⟩) ?_ ?_; rotate_left
    · intro w'; go_simp; with_reducible rfl
    rotate_left
    · simp only [ap]; rfl
    refine pure_ (i := 15) (N := some 2) (v := ?_) (a' := ?_) (bA 16 65535) rfl rfl (any_of HT_.out (by kernel_rfl)) (fun _ _ _ h => h) (Or.inl ⟨by rfl, ?_⟩) ?_ ?_; rotate_left
    · intro w'; go_simp; with_reducible rfl
    rotate_left
    · simp only [ap]; rfl
    replace BK131 := kb BK131 HBW.out; replace HB := hs HB HBW.out; refine done_ (done_of HT_.out (by kernel_rfl)) ?_; clear HBW hH0; (try go_wp2); go_ret; exact en_
   ·
    rw [if_neg c6] at H; (have c6b0 : (a0_2 == t134 && (a0_3 == t135)) = false := by simpa using c6); (try (have c6b1 : decide (a0_2 = t134 && (a0_3 == t135)) = false := by simpa using c6)); (try (have c6b2 : (a0_2 == t134 && (a0_3 == t135)) = false := by simpa using c6)); (try (have c6b3 : ¬ (a0_2 = t134 && (a0_3 == t135)) := by simpa using c6)); clear c6; obtain rfl := Option.some.inj H; go_enter Tryz.func5, Tryz.ntmps5; (try go_wp2_with (first | ((with_reducible refine gate_dst (N := 1) rfl ?_); refine bx_ 1 #[.int .i64 a0_0, .int .i64 a0_1, .int .i64 a0_2, .int .i64 a0_3, .int .i64 a0_4, .bool a0_5, .bool true] 25 ?_; intro gb131 hg w12 BK131 hb; have GE131 := hz_ hg HB; replace HB := hs HB hb; clear hb hg; obtain ⟨hcz13_0, hcz13_1, hcz13_2, hcz13_3, hcz13_4, hcz13_5, hcz13_6⟩ := bc7 BK131.out; obtain ⟨hfz13_0, hfz13_1, hfz13_2, hfz13_3, hfz13_4, hfz13_5, hfz13_6⟩ := bf7 BK131.out))); replace BK131 := kd BK131; replace HB := Aside0.mk (below_drew1 HB.out); refine start_ (n := 16) (S := fun w' => w'.cell? ⟨gb131, 0, none⟩ = some (.int .i64 a0_0) ∧ w'.cell? ⟨gb131, 1, none⟩ = some (.int .i64 a0_1) ∧ w'.cell? ⟨gb131, 2, none⟩ = some (.int .i64 a0_2) ∧ w'.cell? ⟨gb131, 3, none⟩ = some (.int .i64 a0_3) ∧ w'.cell? ⟨gb131, 4, none⟩ = some (.int .i64 a0_4) ∧ w'.cell? ⟨gb131, 5, none⟩ = some (.bool a0_5) ∧ w'.cell? ⟨gb131, 6, none⟩ = some (.bool true)) (ds := []) (bA 16 0) (by kernel_rfl) rfl rfl ⟨(blk_cell BK131.out 0).trans rfl, (blk_cell BK131.out 1).trans rfl, (blk_cell BK131.out 2).trans rfl, (blk_cell BK131.out 3).trans rfl, (blk_cell BK131.out 4).trans rfl, (blk_cell BK131.out 5).trans rfl, (blk_cell BK131.out 6).trans rfl⟩ (fun hHeld => ?_); refine with_tabW serinetteref03_Valid.tab2 serinetteref03_Valid.bits2 (fun HT_ HW_ => ?_); generalize w12.drew = w14 at BK131 HB hHeld ⊢; have hH0 := hHeld; have HBW := hbw w14; refine pure_ (i := 0) (N := some 5) (v := ?_) (a' := ?_) (bA 16 1) rfl rfl (any_of HT_.out (by kernel_rfl)) (fun _ _ _ h => h) (Or.inl ⟨by rfl, ?_⟩) ?_ ?_; rotate_left
    · intro w'; go_simp; with_reducible rfl
    rotate_left
    · simp only [ap]; rfl
    refine take_ (i := 1) (N := some 6) (v := ?_) (a' := ?_) (bA 16 3) rfl rfl (take_ofW HT_.out HW_.out (by kernel_rfl)) (fun _ _ _ h => h) (Or.inl ⟨by rfl, ?_⟩) hHeld ?_ ?_; rotate_left
    · rintro w' ⟨s0, s1, s2, s3, s4, s5, s6⟩; go_simp; with_reducible rfl
    rotate_left
    · simp only [ap]; rfl
    refine one_ (i := 2) (N := some 7) (bA 16 7) rfl rfl (one_of HT_.out (by kernel_rfl)) (by decide) (fun K hK => ?_); refine goes_ Tryz.func26 (by kernel_rfl) rfl #[] (by rfl) rfl rfl (by (try simp only [mp]); first | done | rfl | (simp only [ld]; rfl)) ?_; (with_reducible refine (serinetteref01_None.calls  t132 t133 _ A3.out).mono ?_); rintro e w15 ⟨rfl, hb⟩; refine ⟨_, rfl, ?_⟩; replace HBW := hs HBW hb; clear hb; refine hK.out _ _ (hs7 HBW.out hH0) (fun hHeld => ?_); clear hK K; refine norm_ (a' := ?_) ?_ ?_; rotate_left
    · (show Act.put _ (some 7) _ = _); simp only [ap]; rfl
    refine pure_ (i := 3) (N := some 8) (v := ?_) (a' := ?_) (bA 16 15) rfl rfl (any_of HT_.out (by kernel_rfl)) (fun _ _ _ h => h) (Or.inl ⟨by rfl, ?_⟩) ?_ ?_; rotate_left
    · intro w'; go_simp; with_reducible rfl
    rotate_left
    · simp only [ap]; rfl
    refine pure_ (i := 4) (N := some 9) (v := ?_) (a' := ?_) (bA 16 31) rfl rfl (any_of HT_.out (by kernel_rfl)) (fun _ _ _ h => h) (Or.inl ⟨by rfl, ?_⟩) ?_ ?_; rotate_left
    · intro w'; go_simp; with_reducible rfl
    rotate_left
    · simp only [ap]; rfl
    refine pure_ (i := 5) (N := some 10) (v := ?_) (a' := ?_) (bA 16 63) rfl rfl (any_of HT_.out (by kernel_rfl)) (fun _ _ _ h => h) (Or.inl ⟨by rfl, ?_⟩) ?_ ?_; rotate_left
    · intro w'; go_simp; with_reducible rfl
    rotate_left
    · simp only [ap]; rfl
    refine take_ (i := 6) (N := some 11) (v := ?_) (a' := ?_) (bA 16 127) rfl rfl (take_ofW HT_.out HW_.out (by kernel_rfl)) (fun _ _ _ h => h) (Or.inl ⟨by rfl, ?_⟩) hHeld ?_ ?_; rotate_left
    · rintro w' ⟨s0, s1, s2, s3, s4, s5, s6⟩; go_simp; with_reducible rfl
    rotate_left
    · simp only [ap]; rfl
    refine one_ (i := 7) (N := some 12) (bA 16 255) rfl rfl (one_of HT_.out (by kernel_rfl)) (by decide) (fun K hK => ?_); refine goes_ Tryz.func26 (by kernel_rfl) rfl #[] (by rfl) rfl rfl (by (try simp only [mp]); first | done | rfl | (simp only [ld]; rfl)) ?_; (with_reducible refine (serinetteref01_None.calls  t134 t135 _ A5.out).mono ?_); rintro e w16 ⟨rfl, hb⟩; refine ⟨_, rfl, ?_⟩; replace HBW := hs HBW hb; clear hb; refine hK.out _ _ (hs7 HBW.out hH0) (fun hHeld => ?_); clear hK K; refine norm_ (a' := ?_) ?_ ?_; rotate_left
    · (show Act.put _ (some 12) _ = _); simp only [ap]; rfl
    refine pure_ (i := 8) (N := some 13) (v := ?_) (a' := ?_) (bA 16 511) rfl rfl (any_of HT_.out (by kernel_rfl)) (fun _ _ _ h => h) (Or.inl ⟨by rfl, ?_⟩) ?_ ?_; rotate_left
    · intro w'; go_simp; with_reducible rfl
    rotate_left
    · simp only [ap]; rfl
    refine pure_ (i := 9) (N := some 14) (v := ?_) (a' := ?_) (bA 16 1023) rfl rfl (any_of HT_.out (by kernel_rfl)) (fun _ _ _ h => h) (Or.inl ⟨by rfl, ?_⟩) ?_ ?_; rotate_left
    · intro w'; go_simp; with_reducible rfl
    rotate_left
    · simp only [ap]; rfl
    refine pure_ (i := 10) (N := some 15) (v := ?_) (a' := ?_) (bA 16 2047) rfl rfl (any_of HT_.out (by kernel_rfl)) (fun _ _ _ h => h) (Or.inl ⟨by rfl, ?_⟩) ?_ ?_; rotate_left
    · intro w'; go_simp; with_reducible rfl
    rotate_left
    · simp only [ap]; rfl
    refine pure_ (i := 11) (N := some 16) (v := undef) (a' := ?_) (bA 16 4095) rfl rfl (any_of HT_.out (by kernel_rfl)) (fun _ _ _ h => h) (Or.inr ⟨by rfl, rfl⟩) ?_ ?_; rotate_left
    · simp only [ap]; rfl
    refine pure_ (i := 12) (N := some 17) (v := undef) (a' := ?_) (bA 16 8191) rfl rfl (any_of HT_.out (by kernel_rfl)) (fun _ _ _ h => h) (Or.inr ⟨by rfl, rfl⟩) ?_ ?_; rotate_left
    · simp only [ap]; rfl
    refine pure_ (i := 13) (N := some 18) (v := undef) (a' := ?_) (bA 16 16383) rfl rfl (any_of HT_.out (by kernel_rfl)) (fun _ _ _ h => h) (Or.inr ⟨by rfl, rfl⟩) ?_ ?_; rotate_left
    · simp only [ap]; rfl
    refine pure_ (i := 14) (N := some 19) (v := ?_) (a' := ?_) (bA 16 32767) rfl rfl (any_of HT_.out (by kernel_rfl)) (fun _ _ _ h => h) (Or.inl ⟨by rfl, ?_⟩) ?_ ?_; rotate_left
    · intro w'; go_simp; with_reducible rfl
    rotate_left
    · simp only [ap]; rfl
    refine pure_ (i := 15) (N := some 2) (v := ?_) (a' := ?_) (bA 16 65535) rfl rfl (any_of HT_.out (by kernel_rfl)) (fun _ _ _ h => h) (Or.inl ⟨by rfl, ?_⟩) ?_ ?_; rotate_left
    · intro w'; go_simp; with_reducible rfl
    rotate_left
    · simp only [ap]; rfl
    replace BK131 := kb BK131 HBW.out; replace HB := hs HB HBW.out; refine done_ (done_of HT_.out (by kernel_rfl)) ?_; clear HBW hH0; (try go_wp2); go_ret; exact en_
  ·
   rw [if_neg c4] at H; (have c4b0 : (a0_0 == t132 && (a0_1 == t133)) = false := by simpa using c4); (try (have c4b1 : decide (a0_0 = t132 && (a0_1 == t133)) = false := by simpa using c4)); (try (have c4b2 : (a0_0 == t132 && (a0_1 == t133)) = false := by simpa using c4)); (try (have c4b3 : ¬ (a0_0 = t132 && (a0_1 == t133)) := by simpa using c4)); clear c4; obtain rfl := Option.some.inj H; go_enter Tryz.func5, Tryz.ntmps5; (try go_wp2_with (first | ((with_reducible refine gate_dst (N := 1) rfl ?_); refine bx_ 1 #[.int .i64 a0_0, .int .i64 a0_1, .int .i64 a0_2, .int .i64 a0_3, .int .i64 a0_4, .bool a0_5, .bool true] 25 ?_; intro gb131 hg w17 BK131 hb; have GE131 := hz_ hg HB; replace HB := hs HB hb; clear hb hg; obtain ⟨hcz18_0, hcz18_1, hcz18_2, hcz18_3, hcz18_4, hcz18_5, hcz18_6⟩ := bc7 BK131.out; obtain ⟨hfz18_0, hfz18_1, hfz18_2, hfz18_3, hfz18_4, hfz18_5, hfz18_6⟩ := bf7 BK131.out))); replace BK131 := kd BK131; replace HB := Aside0.mk (below_drew1 HB.out); refine start_ (n := 16) (S := fun w' => w'.cell? ⟨gb131, 0, none⟩ = some (.int .i64 a0_0) ∧ w'.cell? ⟨gb131, 1, none⟩ = some (.int .i64 a0_1) ∧ w'.cell? ⟨gb131, 2, none⟩ = some (.int .i64 a0_2) ∧ w'.cell? ⟨gb131, 3, none⟩ = some (.int .i64 a0_3) ∧ w'.cell? ⟨gb131, 4, none⟩ = some (.int .i64 a0_4) ∧ w'.cell? ⟨gb131, 5, none⟩ = some (.bool a0_5) ∧ w'.cell? ⟨gb131, 6, none⟩ = some (.bool true)) (ds := []) (bA 16 0) (by kernel_rfl) rfl rfl ⟨(blk_cell BK131.out 0).trans rfl, (blk_cell BK131.out 1).trans rfl, (blk_cell BK131.out 2).trans rfl, (blk_cell BK131.out 3).trans rfl, (blk_cell BK131.out 4).trans rfl, (blk_cell BK131.out 5).trans rfl, (blk_cell BK131.out 6).trans rfl⟩ (fun hHeld => ?_); refine with_tabW serinetteref03_Valid.tab2 serinetteref03_Valid.bits2 (fun HT_ HW_ => ?_); generalize w17.drew = w19 at BK131 HB hHeld ⊢; have hH0 := hHeld; have HBW := hbw w19; refine pure_ (i := 0) (N := some 5) (v := ?_) (a' := ?_) (bA 16 1) rfl rfl (any_of HT_.out (by kernel_rfl)) (fun _ _ _ h => h) (Or.inl ⟨by rfl, ?_⟩) ?_ ?_; rotate_left
   · intro w'; go_simp; with_reducible rfl
   rotate_left
   · simp only [ap]; rfl
   refine take_ (i := 1) (N := some 6) (v := ?_) (a' := ?_) (bA 16 3) rfl rfl (take_ofW HT_.out HW_.out (by kernel_rfl)) (fun _ _ _ h => h) (Or.inl ⟨by rfl, ?_⟩) hHeld ?_ ?_; rotate_left
   · rintro w' ⟨s0, s1, s2, s3, s4, s5, s6⟩; go_simp; with_reducible rfl
   rotate_left
   · simp only [ap]; rfl
   refine one_ (i := 2) (N := some 7) (bA 16 7) rfl rfl (one_of HT_.out (by kernel_rfl)) (by decide) (fun K hK => ?_); refine goes_ Tryz.func26 (by kernel_rfl) rfl #[] (by rfl) rfl rfl (by (try simp only [mp]); first | done | rfl | (simp only [ld]; rfl)) ?_; (with_reducible refine (serinetteref01_None.calls  t132 t133 _ A3.out).mono ?_); rintro e w20 ⟨rfl, hb⟩; refine ⟨_, rfl, ?_⟩; replace HBW := hs HBW hb; clear hb; refine hK.out _ _ (hs7 HBW.out hH0) (fun hHeld => ?_); clear hK K; refine norm_ (a' := ?_) ?_ ?_; rotate_left
   · (show Act.put _ (some 7) _ = _); simp only [ap]; rfl
   refine pure_ (i := 3) (N := some 8) (v := ?_) (a' := ?_) (bA 16 15) rfl rfl (any_of HT_.out (by kernel_rfl)) (fun _ _ _ h => h) (Or.inl ⟨by rfl, ?_⟩) ?_ ?_; rotate_left
   · intro w'; go_simp; with_reducible rfl
   rotate_left
   · simp only [ap]; rfl
   refine pure_ (i := 4) (N := some 9) (v := ?_) (a' := ?_) (bA 16 31) rfl rfl (any_of HT_.out (by kernel_rfl)) (fun _ _ _ h => h) (Or.inl ⟨by rfl, ?_⟩) ?_ ?_; rotate_left
   · intro w'; go_simp; with_reducible rfl
   rotate_left
   · simp only [ap]; rfl
   refine pure_ (i := 5) (N := some 10) (v := undef) (a' := ?_) (bA 16 63) rfl rfl (any_of HT_.out (by kernel_rfl)) (fun _ _ _ h => h) (Or.inr ⟨by rfl, rfl⟩) ?_ ?_; rotate_left
   · simp only [ap]; rfl
   refine pure_ (i := 6) (N := some 11) (v := undef) (a' := ?_) (bA 16 127) rfl rfl (any_of HT_.out (by kernel_rfl)) (fun _ _ _ h => h) (Or.inr ⟨by rfl, rfl⟩) ?_ ?_; rotate_left
   · simp only [ap]; rfl
   refine pure_ (i := 7) (N := some 12) (v := undef) (a' := ?_) (bA 16 255) rfl rfl (any_of HT_.out (by kernel_rfl)) (fun _ _ _ h => h) (Or.inr ⟨by rfl, rfl⟩) ?_ ?_; rotate_left
   · simp only [ap]; rfl
   refine pure_ (i := 8) (N := some 13) (v := undef) (a' := ?_) (bA 16 511) rfl rfl (any_of HT_.out (by kernel_rfl)) (fun _ _ _ h => h) (Or.inr ⟨by rfl, rfl⟩) ?_ ?_; rotate_left
   · simp only [ap]; rfl
   refine pure_ (i := 9) (N := some 14) (v := ?_) (a' := ?_) (bA 16 1023) rfl rfl (any_of HT_.out (by kernel_rfl)) (fun _ _ _ h => h) (Or.inl ⟨by rfl, ?_⟩) ?_ ?_; rotate_left
   · intro w'; go_simp; with_reducible rfl
   rotate_left
   · simp only [ap]; rfl
   refine pure_ (i := 10) (N := some 15) (v := ?_) (a' := ?_) (bA 16 2047) rfl rfl (any_of HT_.out (by kernel_rfl)) (fun _ _ _ h => h) (Or.inl ⟨by rfl, ?_⟩) ?_ ?_; rotate_left
   · intro w'; go_simp; with_reducible rfl
   rotate_left
   · simp only [ap]; rfl
   refine pure_ (i := 11) (N := some 16) (v := undef) (a' := ?_) (bA 16 4095) rfl rfl (any_of HT_.out (by kernel_rfl)) (fun _ _ _ h => h) (Or.inr ⟨by rfl, rfl⟩) ?_ ?_; rotate_left
   · simp only [ap]; rfl
   refine pure_ (i := 12) (N := some 17) (v := undef) (a' := ?_) (bA 16 8191) rfl rfl (any_of HT_.out (by kernel_rfl)) (fun _ _ _ h => h) (Or.inr ⟨by rfl, rfl⟩) ?_ ?_; rotate_left
   · simp only [ap]; rfl
   refine pure_ (i := 13) (N := some 18) (v := undef) (a' := ?_) (bA 16 16383) rfl rfl (any_of HT_.out (by kernel_rfl)) (fun _ _ _ h => h) (Or.inr ⟨by rfl, rfl⟩) ?_ ?_; rotate_left
   · simp only [ap]; rfl
   refine pure_ (i := 14) (N := some 19) (v := ?_) (a' := ?_) (bA 16 32767) rfl rfl (any_of HT_.out (by kernel_rfl)) (fun _ _ _ h => h) (Or.inl ⟨by rfl, ?_⟩) ?_ ?_; rotate_left
   · intro w'; go_simp; with_reducible rfl
   rotate_left
   · simp only [ap]; rfl
   refine pure_ (i := 15) (N := some 2) (v := ?_) (a' := ?_) (bA 16 65535) rfl rfl (any_of HT_.out (by kernel_rfl)) (fun _ _ _ h => h) (Or.inl ⟨by rfl, ?_⟩) ?_ ?_; rotate_left
   · intro w'; go_simp; with_reducible rfl
   rotate_left
   · simp only [ap]; rfl
   replace BK131 := kb BK131 HBW.out; replace HB := hs HB HBW.out; refine done_ (done_of HT_.out (by kernel_rfl)) ?_; clear HBW hH0; (try go_wp2); go_ret; exact en_
 ·
  replace c2 := Bool.eq_false_iff.mpr c2; subst c2; rw [if_neg (show ¬ (false = true) by decide)] at H; have HC21 := Aside0.mk H; clear H; go_enter Tryz.func5, Tryz.ntmps5; go_upto_region 3 with (first | ((with_reducible refine gate_dst (N := 1) rfl ?_); refine bx_ 1 #[.int .i64 a0_0, .int .i64 a0_1, .int .i64 a0_2, .int .i64 a0_3, .int .i64 a0_4, .bool a0_5, .bool false] 25 ?_; intro gb131 hg w22 BK131 hb; have GE131 := hz_ hg HB; replace HB := hs HB hb; clear hb hg; obtain ⟨hcz23_0, hcz23_1, hcz23_2, hcz23_3, hcz23_4, hcz23_5, hcz23_6⟩ := bc7 BK131.out; obtain ⟨hfz23_0, hfz23_1, hfz23_2, hfz23_3, hfz23_4, hfz23_5, hfz23_6⟩ := bf7 BK131.out)); (try simp only [Act.put, List.setIfInBounds_toArray, List.set_cons_zero, List.set_cons_succ])
  go_cut [39] (fun v39 wc => ∃ (kq : Nat) (x39_20 : Bool), v39 = .bool x39_20 ∧ Aside0 (serinetteref03_Valid.j0 kq x39_20 a0_0 a0_1 a0_2 a0_3 a0_4 a0_5 false = some r) ∧ Aside0 (kq ≤ k) ∧ Aside0 (wc.heap[gb131]? = some (.cells #[.int .i64 a0_0, .int .i64 a0_1, .int .i64 a0_2, .int .i64 a0_3, .int .i64 a0_4, .bool a0_5, .bool false] 25 (0, 0))) ∧ Aside0 (Below w.heap.size w wc))
  case first =>
   have H := HC21.out; clear HC21; replace H := Option.bind_eq_some_iff.mp H; obtain ⟨t136, A240, H⟩ := H; (try dsimp only at H); have A24 := Aside0.mk A240; clear A240; by_cases c25 : t136 = true
   ·
    subst c25; rw [if_pos rfl] at H; replace H := Option.bind_eq_some_iff.mp H; obtain ⟨t137, A260, H⟩ := H; (try dsimp only at H); have A26 := Aside0.mk A260; clear A260; by_cases c27 : t137 = true
    ·
     subst c27; rw [if_pos rfl] at H; by_cases c28 : a0_4 < 0
     ·
      rw [if_pos c28] at H; have c28b0 : decide (a0_4 < 0) = true := decide_eq_true c28; clear c28; (first | rw [c28b0] | (simp only [i64_w, i32_w]; rw [c28b0]) | skip); have H' := Aside0.mk H; clear H; obtain ⟨hcz29_0, hcz29_1, hcz29_2, hcz29_3, hcz29_4, hcz29_5, hcz29_6⟩ := bc7 BK131.out; obtain ⟨hfz29_0, hfz29_1, hfz29_2, hfz29_3, hfz29_4, hfz29_5, hfz29_6⟩ := bf7 BK131.out; go_wp2_with (first | ((with_reducible refine gate_callee (f := 27) rfl ?_); refine goesL_ (some 22) rfl rfl Tryz.func27 (by kernel_rfl) rfl #[.agg #[.int .i64 a0_0, .int .i64 a0_1]] rfl (by (try simp only [mp]); first | done | rfl | (simp only [ld]; rfl)) ?_; (with_reducible refine (serinetteref01_Valid.calls k a0_0 a0_1 true _ A24.out).mono ?_); rintro e w30 ⟨rfl, hb⟩; refine ⟨_, rfl, ?_⟩; replace BK131 := kb BK131 hb; replace HB := hb_ w hb; obtain ⟨hcz31_0, hcz31_1, hcz31_2, hcz31_3, hcz31_4, hcz31_5, hcz31_6⟩ := bc7 BK131.out; obtain ⟨hfz31_0, hfz31_1, hfz31_2, hfz31_3, hfz31_4, hfz31_5, hfz31_6⟩ := bf7 BK131.out) | (go_at_call 27; (with_reducible refine (serinetteref01_Valid.calls k a0_2 a0_3 true _ A26.out).mono ?_); rintro e w32 ⟨rfl, hb⟩; replace BK131 := kb BK131 hb; replace HB := hb_ w hb; obtain ⟨hcz33_0, hcz33_1, hcz33_2, hcz33_3, hcz33_4, hcz33_5, hcz33_6⟩ := bc7 BK131.out; obtain ⟨hfz33_0, hfz33_1, hfz33_2, hfz33_3, hfz33_4, hfz33_5, hfz33_6⟩ := bf7 BK131.out)); go_meet
      case rel => exact ⟨_, (true), (by first | rfl | (simp; done) | (simp [*]; done)), H', ⟨by first | omega | exact Nat.le_refl _⟩, ⟨bk BK131.out⟩, ab2_⟩
     ·
      rw [if_neg c28] at H; have c28b0 : decide (a0_4 < 0) = false := decide_eq_false c28; clear c28; (first | rw [c28b0] | (simp only [i64_w, i32_w]; rw [c28b0]) | skip); have H' := Aside0.mk H; clear H; obtain ⟨hcz34_0, hcz34_1, hcz34_2, hcz34_3, hcz34_4, hcz34_5, hcz34_6⟩ := bc7 BK131.out; obtain ⟨hfz34_0, hfz34_1, hfz34_2, hfz34_3, hfz34_4, hfz34_5, hfz34_6⟩ := bf7 BK131.out; go_wp2_with (first | ((with_reducible refine gate_callee (f := 27) rfl ?_); refine goesL_ (some 22) rfl rfl Tryz.func27 (by kernel_rfl) rfl #[.agg #[.int .i64 a0_0, .int .i64 a0_1]] rfl (by (try simp only [mp]); first | done | rfl | (simp only [ld]; rfl)) ?_; (with_reducible refine (serinetteref01_Valid.calls k a0_0 a0_1 true _ A24.out).mono ?_); rintro e w35 ⟨rfl, hb⟩; refine ⟨_, rfl, ?_⟩; replace BK131 := kb BK131 hb; replace HB := hb_ w hb; obtain ⟨hcz36_0, hcz36_1, hcz36_2, hcz36_3, hcz36_4, hcz36_5, hcz36_6⟩ := bc7 BK131.out; obtain ⟨hfz36_0, hfz36_1, hfz36_2, hfz36_3, hfz36_4, hfz36_5, hfz36_6⟩ := bf7 BK131.out) | (go_at_call 27; (with_reducible refine (serinetteref01_Valid.calls k a0_2 a0_3 true _ A26.out).mono ?_); rintro e w37 ⟨rfl, hb⟩; replace BK131 := kb BK131 hb; replace HB := hb_ w hb; obtain ⟨hcz38_0, hcz38_1, hcz38_2, hcz38_3, hcz38_4, hcz38_5, hcz38_6⟩ := bc7 BK131.out; obtain ⟨hfz38_0, hfz38_1, hfz38_2, hfz38_3, hfz38_4, hfz38_5, hfz38_6⟩ := bf7 BK131.out)); go_meet
      case rel => exact ⟨_, (decide (a0_4 > 1073741824)), (by first | rfl | (simp; done) | (simp [*]; done)), H', ⟨by first | omega | exact Nat.le_refl _⟩, ⟨bk BK131.out⟩, ab2_⟩
    ·
     replace c27 := Bool.eq_false_iff.mpr c27; subst c27; rw [if_neg (show ¬ (false = true) by decide)] at H; have H' := Aside0.mk H; clear H; obtain ⟨hcz39_0, hcz39_1, hcz39_2, hcz39_3, hcz39_4, hcz39_5, hcz39_6⟩ := bc7 BK131.out; obtain ⟨hfz39_0, hfz39_1, hfz39_2, hfz39_3, hfz39_4, hfz39_5, hfz39_6⟩ := bf7 BK131.out; go_wp2_with (first | ((with_reducible refine gate_callee (f := 27) rfl ?_); refine goesL_ (some 22) rfl rfl Tryz.func27 (by kernel_rfl) rfl #[.agg #[.int .i64 a0_0, .int .i64 a0_1]] rfl (by (try simp only [mp]); first | done | rfl | (simp only [ld]; rfl)) ?_; (with_reducible refine (serinetteref01_Valid.calls k a0_0 a0_1 true _ A24.out).mono ?_); rintro e w40 ⟨rfl, hb⟩; refine ⟨_, rfl, ?_⟩; replace BK131 := kb BK131 hb; replace HB := hb_ w hb; obtain ⟨hcz41_0, hcz41_1, hcz41_2, hcz41_3, hcz41_4, hcz41_5, hcz41_6⟩ := bc7 BK131.out; obtain ⟨hfz41_0, hfz41_1, hfz41_2, hfz41_3, hfz41_4, hfz41_5, hfz41_6⟩ := bf7 BK131.out) | (go_at_call 27; (with_reducible refine (serinetteref01_Valid.calls k a0_2 a0_3 false _ A26.out).mono ?_); rintro e w42 ⟨rfl, hb⟩; replace BK131 := kb BK131 hb; replace HB := hb_ w hb; )); go_meet
     case rel => exact ⟨_, (true), (by first | rfl | (simp; done) | (simp [*]; done)), H', ⟨by first | omega | exact Nat.le_refl _⟩, ⟨bk BK131.out⟩, ab2_⟩
   ·
    replace c25 := Bool.eq_false_iff.mpr c25; subst c25; rw [if_neg (show ¬ (false = true) by decide)] at H; have H' := Aside0.mk H; clear H; obtain ⟨hcz43_0, hcz43_1, hcz43_2, hcz43_3, hcz43_4, hcz43_5, hcz43_6⟩ := bc7 BK131.out; obtain ⟨hfz43_0, hfz43_1, hfz43_2, hfz43_3, hfz43_4, hfz43_5, hfz43_6⟩ := bf7 BK131.out; go_wp2_with (first | ((with_reducible refine gate_callee (f := 27) rfl ?_); refine goesL_ (some 22) rfl rfl Tryz.func27 (by kernel_rfl) rfl #[.agg #[.int .i64 a0_0, .int .i64 a0_1]] rfl (by (try simp only [mp]); first | done | rfl | (simp only [ld]; rfl)) ?_; (with_reducible refine (serinetteref01_Valid.calls k a0_0 a0_1 false _ A24.out).mono ?_); rintro e w44 ⟨rfl, hb⟩; refine ⟨_, rfl, ?_⟩; replace BK131 := kb BK131 hb; replace HB := hb_ w hb; )); go_meet
    case rel => exact ⟨_, (true), (by first | rfl | (simp; done) | (simp [*]; done)), H', ⟨by first | omega | exact Nat.le_refl _⟩, ⟨bk BK131.out⟩, ab2_⟩
  case rest =>
   clear HC21; (try clear c2); (try clear hcz23_0 hcz23_1 hcz23_2 hcz23_3 hcz23_4 hcz23_5 hcz23_6 hfz23_0 hfz23_1 hfz23_2 hfz23_3 hfz23_4 hfz23_5 hfz23_6); obtain ⟨kq, x39_20, rfl, HA, HJ20, BK131, HB⟩ := hcut; cases kq with
   | zero => exact absurd HA.out (by simp [serinetteref03_Valid.j0])
   | succ kj20 =>
    have H := HA.out; clear HA; simp only [serinetteref03_Valid.j0] at H; by_cases c45 : x39_20 = true
    · subst c45; rw [if_pos rfl] at H; obtain rfl := Option.some.inj H; go_wp2; go_ret; exact en_
    ·
     replace c45 := Bool.eq_false_iff.mpr c45; subst c45; rw [if_neg (show ¬ (false = true) by decide)] at H; replace H := Option.bind_eq_some_iff.mp H; obtain ⟨t138, A460, H⟩ := H; (try dsimp only at H); have A46 := Aside0.mk A460; clear A460; by_cases c47 : t138 = true
     ·
      subst c47; rw [if_pos rfl] at H; replace H := Option.bind_eq_some_iff.mp H; obtain ⟨t139, A480, H⟩ := H; (try dsimp only at H); have A48 := Aside0.mk A480; clear A480; by_cases c49 : t139 = true
      · subst c49; rw [if_pos rfl] at H; replace H := Option.bind_eq_some_iff.mp H; obtain ⟨t140, A500, H⟩ := H; (try dsimp only at H); have A50 := Aside0.mk A500; clear A500; obtain rfl := Option.some.inj H; obtain ⟨hcz51_0, hcz51_1, hcz51_2, hcz51_3, hcz51_4, hcz51_5, hcz51_6⟩ := bc7 BK131.out; obtain ⟨hfz51_0, hfz51_1, hfz51_2, hfz51_3, hfz51_4, hfz51_5, hfz51_6⟩ := bf7 BK131.out; go_wp2_with (first | ((with_reducible refine gate_callee (f := 28) rfl ?_); refine goesL_ (some 42) rfl rfl Tryz.func28 (by kernel_rfl) rfl #[.agg #[.int .i64 a0_0, .int .i64 a0_1]] rfl (by (try simp only [mp]); first | done | rfl | (simp only [ld]; rfl)) ?_; (with_reducible refine (serinetteref01_Is.calls kj20 a0_0 a0_1 true _ A46.out).mono ?_); rintro e w52 ⟨rfl, hb⟩; refine ⟨_, rfl, ?_⟩; replace BK131 := kb BK131 hb; replace HB := hb_ w hb; obtain ⟨hcz53_0, hcz53_1, hcz53_2, hcz53_3, hcz53_4, hcz53_5, hcz53_6⟩ := bc7 BK131.out; obtain ⟨hfz53_0, hfz53_1, hfz53_2, hfz53_3, hfz53_4, hfz53_5, hfz53_6⟩ := bf7 BK131.out) | (go_at_call 28; (with_reducible refine (serinetteref01_Is.calls kj20 a0_2 a0_3 true _ A48.out).mono ?_); rintro e w54 ⟨rfl, hb⟩; replace BK131 := kb BK131 hb; replace HB := hb_ w hb; obtain ⟨hcz55_0, hcz55_1, hcz55_2, hcz55_3, hcz55_4, hcz55_5, hcz55_6⟩ := bc7 BK131.out; obtain ⟨hfz55_0, hfz55_1, hfz55_2, hfz55_3, hfz55_4, hfz55_5, hfz55_6⟩ := bf7 BK131.out) | (go_at_call 29; (with_reducible refine (serinetteref01_Cmp.calls kj20 a0_0 a0_1 a0_2 a0_3 t140 _ A50.out).mono ?_); rintro e w56 ⟨rfl, hb⟩; replace BK131 := kb BK131 hb; replace HB := hb_ w hb; )); go_ret; exact en_
      · replace c49 := Bool.eq_false_iff.mpr c49; subst c49; rw [if_neg (show ¬ (false = true) by decide)] at H; obtain rfl := Option.some.inj H; obtain ⟨hcz57_0, hcz57_1, hcz57_2, hcz57_3, hcz57_4, hcz57_5, hcz57_6⟩ := bc7 BK131.out; obtain ⟨hfz57_0, hfz57_1, hfz57_2, hfz57_3, hfz57_4, hfz57_5, hfz57_6⟩ := bf7 BK131.out; go_wp2_with (first | ((with_reducible refine gate_callee (f := 28) rfl ?_); refine goesL_ (some 42) rfl rfl Tryz.func28 (by kernel_rfl) rfl #[.agg #[.int .i64 a0_0, .int .i64 a0_1]] rfl (by (try simp only [mp]); first | done | rfl | (simp only [ld]; rfl)) ?_; (with_reducible refine (serinetteref01_Is.calls kj20 a0_0 a0_1 true _ A46.out).mono ?_); rintro e w58 ⟨rfl, hb⟩; refine ⟨_, rfl, ?_⟩; replace BK131 := kb BK131 hb; replace HB := hb_ w hb; obtain ⟨hcz59_0, hcz59_1, hcz59_2, hcz59_3, hcz59_4, hcz59_5, hcz59_6⟩ := bc7 BK131.out; obtain ⟨hfz59_0, hfz59_1, hfz59_2, hfz59_3, hfz59_4, hfz59_5, hfz59_6⟩ := bf7 BK131.out) | (go_at_call 28; (with_reducible refine (serinetteref01_Is.calls kj20 a0_2 a0_3 false _ A48.out).mono ?_); rintro e w60 ⟨rfl, hb⟩; replace BK131 := kb BK131 hb; replace HB := hb_ w hb; )); go_ret; exact en_
     · replace c47 := Bool.eq_false_iff.mpr c47; subst c47; rw [if_neg (show ¬ (false = true) by decide)] at H; obtain rfl := Option.some.inj H; obtain ⟨hcz61_0, hcz61_1, hcz61_2, hcz61_3, hcz61_4, hcz61_5, hcz61_6⟩ := bc7 BK131.out; obtain ⟨hfz61_0, hfz61_1, hfz61_2, hfz61_3, hfz61_4, hfz61_5, hfz61_6⟩ := bf7 BK131.out; go_wp2_with (first | ((with_reducible refine gate_callee (f := 28) rfl ?_); refine goesL_ (some 42) rfl rfl Tryz.func28 (by kernel_rfl) rfl #[.agg #[.int .i64 a0_0, .int .i64 a0_1]] rfl (by (try simp only [mp]); first | done | rfl | (simp only [ld]; rfl)) ?_; (with_reducible refine (serinetteref01_Is.calls kj20 a0_0 a0_1 false _ A46.out).mono ?_); rintro e w62 ⟨rfl, hb⟩; refine ⟨_, rfl, ?_⟩; replace BK131 := kb BK131 hb; replace HB := hb_ w hb; )); go_ret; exact en_
def span_All.f  : Option (Int × Int × Int × Int × Int × Bool × Bool) := some (0, 0, 0, 0, 0, true, false)
set_option maxHeartbeats 8000000 in
set_option maxRecDepth 100000 in
theorem span_All.calls  (r1 : Int) (r2 : Int) (r3 : Int) (r4 : Int) (r5 : Int) (r6 : Bool) (r7 : Bool) (w : World) (h : span_All.f  = some (r1, r2, r3, r4, r5, r6, r7)) :
  Calls Tryz.prog 20 #[] w fun e w' => e = .returned (.agg #[.int .i64 r1, .int .i64 r2, .int .i64 r3, .int .i64 r4, .int .i64 r5, .bool r6, .bool r7]) ∧ Below w.heap.size w w' := by
 have hu25 := Tryz.underlying25; have HB := Aside0.mk (Below.refl w.heap.size w); have H : (some (0, 0, 0, 0, 0, true, false)) = some (r1, r2, r3, r4, r5, r6, r7) := h; clear h; simp only [Option.some.injEq, Prod.mk.injEq] at H; obtain ⟨rfl, rfl, rfl, rfl, rfl, rfl, rfl⟩ := H; go_enter Tryz.func20, Tryz.ntmps20; go_wp2_with (first | ((with_reducible refine gate_dst (N := 0) rfl ?_); refine bx_ 0 #[.int .i64 0, .int .i64 0, .int .i64 0, .int .i64 0, .int .i64 0, .bool false, .bool false] 25 ?_; intro gb141 hg w1 BK141 hb; have GE141 := hz_ hg HB; replace HB := hs HB hb; clear hb hg; obtain ⟨hcz2_0, hcz2_1, hcz2_2, hcz2_3, hcz2_4, hcz2_5, hcz2_6⟩ := bc7 BK141.out; obtain ⟨hfz2_0, hfz2_1, hfz2_2, hfz2_3, hfz2_4, hfz2_5, hfz2_6⟩ := bf7 BK141.out)); refine bodyPost_ret (results_cell_row rfl _ _ gb141 25 #[.int .i64 0, .int .i64 0, .int .i64 0, .int .i64 0, .int .i64 0, .bool true, .bool false] (0, 0) _ rfl (by exact rq BK141.out (by rfl)) Tryz.underlying25 rfl (by kernel_rfl)) rfl ?_; exact en_
def span_valid.f (k : Nat) (a0_0 : Int) (a0_1 : Int) (a0_2 : Int) (a0_3 : Int) (a0_4 : Int) (a0_5 : Bool) (a0_6 : Bool) : Option (Int × Int × Int × Int × Int × Bool × Bool) := (span_Valid.f k a0_0 a0_1 a0_2 a0_3 a0_4 a0_5 a0_6).bind fun t144 => (if t144 = true then (some (a0_0, a0_1, a0_2, a0_3, a0_4, a0_5, a0_6)) else ((span_All.f).bind fun bt145 => (some (bt145.1, bt145.2.1, bt145.2.2.1, bt145.2.2.2.1, bt145.2.2.2.2.1, bt145.2.2.2.2.2.1, bt145.2.2.2.2.2.2))))
theorem span_valid.mono : ∀ a0 a1 a2 a3 a4 a5 a6 k, LeO (span_valid.f k a0 a1 a2 a3 a4 a5 a6) (span_valid.f (k + 1) a0 a1 a2 a3 a4 a5 a6) := by
 intro a0 a1 a2 a3 a4 a5 a6 k
 unfold span_valid.f
 repeat' first
   | (with_reducible exact span_Valid.mono _ _ _ _ _ _ _ _)
   | (with_reducible exact LeO.refl _)
   | (with_reducible exact LeO.none _)
   | (with_reducible refine LeO.ite ?_ ?_)
   | (with_reducible refine LeO.bind ?_ (fun _ => ?_))
   | exact span_Valid.mono _ _ _ _ _ _ _ _
   | exact LeO.none _
   | refine LeO.ite ?_ ?_
   | refine LeO.bind ?_ (fun _ => ?_)
set_option maxHeartbeats 8000000 in
set_option maxRecDepth 100000 in
theorem span_valid.calls (k : Nat) (a0_0 : Int) (a0_1 : Int) (a0_2 : Int) (a0_3 : Int) (a0_4 : Int) (a0_5 : Bool) (a0_6 : Bool) (r1 : Int) (r2 : Int) (r3 : Int) (r4 : Int) (r5 : Int) (r6 : Bool) (r7 : Bool) (w : World) (h : span_valid.f k a0_0 a0_1 a0_2 a0_3 a0_4 a0_5 a0_6 = some (r1, r2, r3, r4, r5, r6, r7)) :
  Calls Tryz.prog 30 #[.agg #[.int .i64 a0_0, .int .i64 a0_1, .int .i64 a0_2, .int .i64 a0_3, .int .i64 a0_4, .bool a0_5, .bool a0_6]] w fun e w' => e = .returned (.agg #[.int .i64 r1, .int .i64 r2, .int .i64 r3, .int .i64 r4, .int .i64 r5, .bool r6, .bool r7]) ∧ Below w.heap.size w w' := by
 have hu25 := Tryz.underlying25; have HB := Aside0.mk (Below.refl w.heap.size w); have H : ((span_Valid.f k a0_0 a0_1 a0_2 a0_3 a0_4 a0_5 a0_6).bind fun t144 => (if t144 = true then (some (a0_0, a0_1, a0_2, a0_3, a0_4, a0_5, a0_6)) else ((span_All.f).bind fun bt145 => (some (bt145.1, bt145.2.1, bt145.2.2.1, bt145.2.2.2.1, bt145.2.2.2.2.1, bt145.2.2.2.2.2.1, bt145.2.2.2.2.2.2))))) = some (r1, r2, r3, r4, r5, r6, r7) := h; clear h; replace H := Option.bind_eq_some_iff.mp H; obtain ⟨t144, A20, H⟩ := H; (try dsimp only at H); have A2 := Aside0.mk A20; clear A20; by_cases c3 : t144 = true
 · subst c3; rw [if_pos rfl] at H; simp only [Option.some.injEq, Prod.mk.injEq] at H; obtain ⟨rfl, rfl, rfl, rfl, rfl, rfl, rfl⟩ := H; go_enter Tryz.func30, Tryz.ntmps30; go_wp2_with (first | ((with_reducible refine gate_dst (N := 1) rfl ?_); refine bx_ 1 #[.int .i64 a0_0, .int .i64 a0_1, .int .i64 a0_2, .int .i64 a0_3, .int .i64 a0_4, .bool a0_5, .bool a0_6] 25 ?_; intro gb142 hg w4 BK142 hb; have GE142 := hz_ hg HB; replace HB := hs HB hb; clear hb hg) | ((with_reducible refine gate_dst (N := 2) rfl ?_); refine bx_ 2 #[.int .i64 0, .int .i64 0, .int .i64 0, .int .i64 0, .int .i64 0, .bool false, .bool false] 25 ?_; intro gb143 hg w5 BK143 hb; have GE143 := ge_ w hg; have NB142_143 := nlk hg BK142; have NB143_142 := ngk hg BK142; replace BK142 := kb BK142 hb; replace HB := hb_ w hb; clear hb hg; have hnb6 := NB142_143.out; have hnc6 := NB143_142.out; obtain ⟨hcz7_0, hcz7_1, hcz7_2, hcz7_3, hcz7_4, hcz7_5, hcz7_6⟩ := bc7 BK142.out; obtain ⟨hfz7_0, hfz7_1, hfz7_2, hfz7_3, hfz7_4, hfz7_5, hfz7_6⟩ := bf7 BK142.out) | ((with_reducible refine gate_callee (f := 4) rfl ?_); refine goesL_ (some 4) rfl rfl Tryz.func4 (by kernel_rfl) rfl #[.agg #[.int .i64 a0_0, .int .i64 a0_1, .int .i64 a0_2, .int .i64 a0_3, .int .i64 a0_4, .bool a0_5, .bool a0_6]] rfl (by (try simp only [mp]); first | done | rfl | (simp only [ld]; rfl)) ?_; (with_reducible refine (span_Valid.calls k a0_0 a0_1 a0_2 a0_3 a0_4 a0_5 a0_6 true _ A2.out).mono ?_); rintro e w8 ⟨rfl, hb⟩; refine ⟨_, rfl, ?_⟩; replace BK142 := kb BK142 hb; replace BK143 := kb BK143 hb; replace HB := hb_ w hb; obtain ⟨hcz9_0, hcz9_1, hcz9_2, hcz9_3, hcz9_4, hcz9_5, hcz9_6⟩ := bc7 BK142.out; obtain ⟨hfz9_0, hfz9_1, hfz9_2, hfz9_3, hfz9_4, hfz9_5, hfz9_6⟩ := bf7 BK142.out; obtain ⟨hcz10_0, hcz10_1, hcz10_2, hcz10_3, hcz10_4, hcz10_5, hcz10_6⟩ := bc7 BK143.out; obtain ⟨hfz10_0, hfz10_1, hfz10_2, hfz10_3, hfz10_4, hfz10_5, hfz10_6⟩ := bf7 BK143.out)); refine bodyPost_ret (results_cell_row rfl _ _ gb143 25 #[.int .i64 a0_0, .int .i64 a0_1, .int .i64 a0_2, .int .i64 a0_3, .int .i64 a0_4, .bool a0_5, .bool a0_6] (0, 0) _ rfl (by exact rq BK143.out (by rfl)) Tryz.underlying25 rfl (by kernel_rfl)) rfl ?_; exact en_
 · replace c3 := Bool.eq_false_iff.mpr c3; subst c3; rw [if_neg (show ¬ (false = true) by decide)] at H; replace H := Option.bind_eq_some_iff.mp H; obtain ⟨⟨t145, t146, t147, t148, t149, t150, t151⟩, A110, H⟩ := H; (try dsimp only at H); have A11 := Aside0.mk A110; clear A110; simp only [Option.some.injEq, Prod.mk.injEq] at H; obtain ⟨rfl, rfl, rfl, rfl, rfl, rfl, rfl⟩ := H; go_enter Tryz.func30, Tryz.ntmps30; go_wp2_with (first | ((with_reducible refine gate_dst (N := 1) rfl ?_); refine bx_ 1 #[.int .i64 a0_0, .int .i64 a0_1, .int .i64 a0_2, .int .i64 a0_3, .int .i64 a0_4, .bool a0_5, .bool a0_6] 25 ?_; intro gb142 hg w12 BK142 hb; have GE142 := hz_ hg HB; replace HB := hs HB hb; clear hb hg) | ((with_reducible refine gate_dst (N := 2) rfl ?_); refine bx_ 2 #[.int .i64 0, .int .i64 0, .int .i64 0, .int .i64 0, .int .i64 0, .bool false, .bool false] 25 ?_; intro gb143 hg w13 BK143 hb; have GE143 := ge_ w hg; have NB142_143 := nlk hg BK142; have NB143_142 := ngk hg BK142; replace BK142 := kb BK142 hb; replace HB := hb_ w hb; clear hb hg; have hnb14 := NB142_143.out; have hnc14 := NB143_142.out; obtain ⟨hcz15_0, hcz15_1, hcz15_2, hcz15_3, hcz15_4, hcz15_5, hcz15_6⟩ := bc7 BK142.out; obtain ⟨hfz15_0, hfz15_1, hfz15_2, hfz15_3, hfz15_4, hfz15_5, hfz15_6⟩ := bf7 BK142.out) | ((with_reducible refine gate_callee (f := 4) rfl ?_); refine goesL_ (some 4) rfl rfl Tryz.func4 (by kernel_rfl) rfl #[.agg #[.int .i64 a0_0, .int .i64 a0_1, .int .i64 a0_2, .int .i64 a0_3, .int .i64 a0_4, .bool a0_5, .bool a0_6]] rfl (by (try simp only [mp]); first | done | rfl | (simp only [ld]; rfl)) ?_; (with_reducible refine (span_Valid.calls k a0_0 a0_1 a0_2 a0_3 a0_4 a0_5 a0_6 false _ A2.out).mono ?_); rintro e w16 ⟨rfl, hb⟩; refine ⟨_, rfl, ?_⟩; replace BK142 := kb BK142 hb; replace BK143 := kb BK143 hb; replace HB := hb_ w hb; ) | ((with_reducible refine gate_callee (f := 20) rfl ?_); refine goesL_ (some 6) rfl rfl Tryz.func20 (by kernel_rfl) rfl #[] rfl (by (try simp only [mp]); first | done | rfl | (simp only [ld]; rfl)) ?_; (with_reducible refine (span_All.calls  t145 t146 t147 t148 t149 t150 t151 _ A11.out).mono ?_); rintro e w17 ⟨rfl, hb⟩; refine ⟨_, rfl, ?_⟩; replace BK142 := kb BK142 hb; replace BK143 := kb BK143 hb; replace HB := hb_ w hb; obtain ⟨hcz18_0, hcz18_1, hcz18_2, hcz18_3, hcz18_4, hcz18_5, hcz18_6⟩ := bc7 BK143.out; obtain ⟨hfz18_0, hfz18_1, hfz18_2, hfz18_3, hfz18_4, hfz18_5, hfz18_6⟩ := bf7 BK143.out)); refine bodyPost_ret (results_cell_row rfl _ _ gb143 25 #[.int .i64 t145, .int .i64 t146, .int .i64 t147, .int .i64 t148, .int .i64 t149, .bool t150, .bool t151] (0, 0) _ rfl (by exact rq BK143.out (by rfl)) Tryz.underlying25 rfl (by kernel_rfl)) rfl ?_; exact en_
def span_Has.j0 : Nat → Bool → Int → Int → Int → Int → Int → Bool → Bool → Int → Int → Option (Bool)
 | 0, _, _, _, _, _, _, _, _, _, _ => none
 | k + 1, x37, x153000, x153001, x153002, x153003, x153004, x153005, x153006, x154000, x154001 => if x37 = true then (some false) else (if x153004 = 0 then (some true) else (if x154001 = 0 then (none) else (some ((Int.tmod x153004 x154001) == 0))))
def span_Has.f (k : Nat) (a0_0 : Int) (a0_1 : Int) (a0_2 : Int) (a0_3 : Int) (a0_4 : Int) (a0_5 : Bool) (a0_6 : Bool) (a1_0 : Int) (a1_1 : Int) : Option (Bool) := (span_valid.f k a0_0 a0_1 a0_2 a0_3 a0_4 a0_5 a0_6).bind fun bt154 => ((ratio_Is.f k a1_0 a1_1).bind fun t161 => (if t161 = true then (if bt154.2.2.2.2.2.2 = true then (span_Has.j0 k true bt154.1 bt154.2.1 bt154.2.2.1 bt154.2.2.2.1 bt154.2.2.2.2.1 bt154.2.2.2.2.2.1 bt154.2.2.2.2.2.2 a1_0 a1_1) else ((ratio_Is.f k bt154.1 bt154.2.1).bind fun t162 => (if t162 = true then ((ratio_Cmp.f k a1_0 a1_1 bt154.1 bt154.2.1).bind fun t163 => (if t163 < 0 then (span_Has.j0 k true bt154.1 bt154.2.1 bt154.2.2.1 bt154.2.2.2.1 bt154.2.2.2.2.1 bt154.2.2.2.2.2.1 bt154.2.2.2.2.2.2 a1_0 a1_1) else ((ratio_Is.f k bt154.2.2.1 bt154.2.2.2.1).bind fun t164 => (if t164 = true then ((ratio_Cmp.f k a1_0 a1_1 bt154.2.2.1 bt154.2.2.2.1).bind fun t165 => (span_Has.j0 k (decide (t165 > 0)) bt154.1 bt154.2.1 bt154.2.2.1 bt154.2.2.2.1 bt154.2.2.2.2.1 bt154.2.2.2.2.2.1 bt154.2.2.2.2.2.2 a1_0 a1_1)) else (span_Has.j0 k false bt154.1 bt154.2.1 bt154.2.2.1 bt154.2.2.2.1 bt154.2.2.2.2.1 bt154.2.2.2.2.2.1 bt154.2.2.2.2.2.2 a1_0 a1_1))))) else ((ratio_Is.f k bt154.2.2.1 bt154.2.2.2.1).bind fun t166 => (if t166 = true then ((ratio_Cmp.f k a1_0 a1_1 bt154.2.2.1 bt154.2.2.2.1).bind fun t167 => (span_Has.j0 k (decide (t167 > 0)) bt154.1 bt154.2.1 bt154.2.2.1 bt154.2.2.2.1 bt154.2.2.2.2.1 bt154.2.2.2.2.2.1 bt154.2.2.2.2.2.2 a1_0 a1_1)) else (span_Has.j0 k false bt154.1 bt154.2.1 bt154.2.2.1 bt154.2.2.2.1 bt154.2.2.2.2.1 bt154.2.2.2.2.2.1 bt154.2.2.2.2.2.2 a1_0 a1_1)))))) else (some bt154.2.2.2.2.2.1)))
theorem span_Has.mono_l : ∀ k, (∀ y0 y1 y2 y3 y4 y5 y6 y7 y8 y9, LeO (span_Has.j0 k y0 y1 y2 y3 y4 y5 y6 y7 y8 y9) (span_Has.j0 (k + 1) y0 y1 y2 y3 y4 y5 y6 y7 y8 y9))
 | 0 => fun _ _ _ _ _ _ _ _ _ _ r h => by simp [span_Has.j0] at h
 | k + 1 => by
  have ih0 := span_Has.mono_l k
  ·
   intro y0 y1 y2 y3 y4 y5 y6 y7 y8 y9
   unfold span_Has.j0
   repeat' first
   | (with_reducible exact ih0 _ _ _ _ _ _ _ _ _ _)
   | (with_reducible exact ratio_Cmp.mono _ _ _ _ _)
   | (with_reducible exact ratio_Is.mono _ _ _)
   | (with_reducible exact span_valid.mono _ _ _ _ _ _ _ _)
   | (with_reducible exact LeO.refl _)
   | (with_reducible exact LeO.none _)
   | (with_reducible refine LeO.ite ?_ ?_)
   | (with_reducible refine LeO.bind ?_ (fun _ => ?_))
   | exact ih0 _ _ _ _ _ _ _ _ _ _
   | exact ratio_Cmp.mono _ _ _ _ _
   | exact ratio_Is.mono _ _ _
   | exact span_valid.mono _ _ _ _ _ _ _ _
   | exact LeO.none _
   | refine LeO.ite ?_ ?_
   | refine LeO.bind ?_ (fun _ => ?_)
theorem span_Has.mono : ∀ a0 a1 a2 a3 a4 a5 a6 a7 a8 k, LeO (span_Has.f k a0 a1 a2 a3 a4 a5 a6 a7 a8) (span_Has.f (k + 1) a0 a1 a2 a3 a4 a5 a6 a7 a8) := by
 intro a0 a1 a2 a3 a4 a5 a6 a7 a8 k
 have ih0 := span_Has.mono_l k
 unfold span_Has.f
 repeat' first
   | (with_reducible exact ih0 _ _ _ _ _ _ _ _ _ _)
   | (with_reducible exact ratio_Cmp.mono _ _ _ _ _)
   | (with_reducible exact ratio_Is.mono _ _ _)
   | (with_reducible exact span_valid.mono _ _ _ _ _ _ _ _)
   | (with_reducible exact LeO.refl _)
   | (with_reducible exact LeO.none _)
   | (with_reducible refine LeO.ite ?_ ?_)
   | (with_reducible refine LeO.bind ?_ (fun _ => ?_))
   | exact ih0 _ _ _ _ _ _ _ _ _ _
   | exact ratio_Cmp.mono _ _ _ _ _
   | exact ratio_Is.mono _ _ _
   | exact span_valid.mono _ _ _ _ _ _ _ _
   | exact LeO.none _
   | refine LeO.ite ?_ ?_
   | refine LeO.bind ?_ (fun _ => ?_)
set_option maxHeartbeats 8000000 in
set_option maxRecDepth 100000 in
theorem span_Has.calls (k : Nat) (a0_0 : Int) (a0_1 : Int) (a0_2 : Int) (a0_3 : Int) (a0_4 : Int) (a0_5 : Bool) (a0_6 : Bool) (a1_0 : Int) (a1_1 : Int) (r : Bool) (w : World) (h : span_Has.f k a0_0 a0_1 a0_2 a0_3 a0_4 a0_5 a0_6 a1_0 a1_1 = some r) :
  Calls Tryz.prog 6 #[.agg #[.int .i64 a0_0, .int .i64 a0_1, .int .i64 a0_2, .int .i64 a0_3, .int .i64 a0_4, .bool a0_5, .bool a0_6], .agg #[.int .i64 a1_0, .int .i64 a1_1]] w fun e w' => e = .returned (.bool r) ∧ Below w.heap.size w w' := by
 have hu25 := Tryz.underlying25; have hu23 := Tryz.underlying23; have HB := Aside0.mk (Below.refl w.heap.size w); have H : ((span_valid.f k a0_0 a0_1 a0_2 a0_3 a0_4 a0_5 a0_6).bind fun bt154 => ((ratio_Is.f k a1_0 a1_1).bind fun t161 => (if t161 = true then (if bt154.2.2.2.2.2.2 = true then (span_Has.j0 k true bt154.1 bt154.2.1 bt154.2.2.1 bt154.2.2.2.1 bt154.2.2.2.2.1 bt154.2.2.2.2.2.1 bt154.2.2.2.2.2.2 a1_0 a1_1) else ((ratio_Is.f k bt154.1 bt154.2.1).bind fun t162 => (if t162 = true then ((ratio_Cmp.f k a1_0 a1_1 bt154.1 bt154.2.1).bind fun t163 => (if t163 < 0 then (span_Has.j0 k true bt154.1 bt154.2.1 bt154.2.2.1 bt154.2.2.2.1 bt154.2.2.2.2.1 bt154.2.2.2.2.2.1 bt154.2.2.2.2.2.2 a1_0 a1_1) else ((ratio_Is.f k bt154.2.2.1 bt154.2.2.2.1).bind fun t164 => (if t164 = true then ((ratio_Cmp.f k a1_0 a1_1 bt154.2.2.1 bt154.2.2.2.1).bind fun t165 => (span_Has.j0 k (decide (t165 > 0)) bt154.1 bt154.2.1 bt154.2.2.1 bt154.2.2.2.1 bt154.2.2.2.2.1 bt154.2.2.2.2.2.1 bt154.2.2.2.2.2.2 a1_0 a1_1)) else (span_Has.j0 k false bt154.1 bt154.2.1 bt154.2.2.1 bt154.2.2.2.1 bt154.2.2.2.2.1 bt154.2.2.2.2.2.1 bt154.2.2.2.2.2.2 a1_0 a1_1))))) else ((ratio_Is.f k bt154.2.2.1 bt154.2.2.2.1).bind fun t166 => (if t166 = true then ((ratio_Cmp.f k a1_0 a1_1 bt154.2.2.1 bt154.2.2.2.1).bind fun t167 => (span_Has.j0 k (decide (t167 > 0)) bt154.1 bt154.2.1 bt154.2.2.1 bt154.2.2.2.1 bt154.2.2.2.2.1 bt154.2.2.2.2.2.1 bt154.2.2.2.2.2.2 a1_0 a1_1)) else (span_Has.j0 k false bt154.1 bt154.2.1 bt154.2.2.1 bt154.2.2.2.1 bt154.2.2.2.2.1 bt154.2.2.2.2.2.1 bt154.2.2.2.2.2.2 a1_0 a1_1)))))) else (some bt154.2.2.2.2.2.1)))) = some r := h; clear h; replace H := Option.bind_eq_some_iff.mp H; obtain ⟨⟨t154, t155, t156, t157, t158, t159, t160⟩, A30, H⟩ := H; (try dsimp only at H); have A3 := Aside0.mk A30; clear A30; replace H := Option.bind_eq_some_iff.mp H; obtain ⟨t161, A40, H⟩ := H; (try dsimp only at H); have A4 := Aside0.mk A40; clear A40; by_cases c5 : t161 = true
 ·
  subst c5; rw [if_pos rfl] at H; have HC6 := Aside0.mk H; clear H; go_enter Tryz.func6, Tryz.ntmps6; go_upto_region 4 with (first | ((with_reducible refine gate_dst (N := 2) rfl ?_); refine bx_ 2 #[.int .i64 a0_0, .int .i64 a0_1, .int .i64 a0_2, .int .i64 a0_3, .int .i64 a0_4, .bool a0_5, .bool a0_6] 25 ?_; intro gb152 hg w7 BK152 hb; have GE152 := hz_ hg HB; replace HB := hs HB hb; clear hb hg) | ((with_reducible refine gate_dst (N := 3) rfl ?_); refine bx_ 3 #[.int .i64 a1_0, .int .i64 a1_1] 23 ?_; intro gb153 hg w8 BK153 hb; have GE153 := ge_ w hg; have NB152_153 := nlk hg BK152; have NB153_152 := ngk hg BK152; replace BK152 := kb BK152 hb; replace HB := hb_ w hb; clear hb hg; have hnb9 := NB152_153.out; have hnc9 := NB153_152.out; obtain ⟨hcz10_0, hcz10_1, hcz10_2, hcz10_3, hcz10_4, hcz10_5, hcz10_6⟩ := bc7 BK152.out; obtain ⟨hfz10_0, hfz10_1, hfz10_2, hfz10_3, hfz10_4, hfz10_5, hfz10_6⟩ := bf7 BK152.out) | ((with_reducible refine gate_callee (f := 30) rfl ?_); refine goesL_ (some 6) rfl rfl Tryz.func30 (by kernel_rfl) rfl #[.agg #[.int .i64 a0_0, .int .i64 a0_1, .int .i64 a0_2, .int .i64 a0_3, .int .i64 a0_4, .bool a0_5, .bool a0_6]] rfl (by (try simp only [mp]); first | done | rfl | (simp only [ld]; rfl)) ?_; (with_reducible refine (span_valid.calls k a0_0 a0_1 a0_2 a0_3 a0_4 a0_5 a0_6 t154 t155 t156 t157 t158 t159 t160 _ A3.out).mono ?_); rintro e w11 ⟨rfl, hb⟩; refine ⟨_, rfl, ?_⟩; replace BK152 := kb BK152 hb; replace BK153 := kb BK153 hb; replace HB := hb_ w hb; obtain ⟨hcz12_0, hcz12_1, hcz12_2, hcz12_3, hcz12_4, hcz12_5, hcz12_6⟩ := bc7 BK152.out; obtain ⟨hfz12_0, hfz12_1, hfz12_2, hfz12_3, hfz12_4, hfz12_5, hfz12_6⟩ := bf7 BK152.out; obtain ⟨hcz13_0, hcz13_1⟩ := bc2 BK153.out; obtain ⟨hfz13_0, hfz13_1⟩ := bf2 BK153.out) | ((with_reducible refine gate_callee (f := 24) rfl ?_); refine goesL_ (some 8) rfl rfl Tryz.func24 (by kernel_rfl) rfl #[.agg #[.int .i64 a1_0, .int .i64 a1_1]] rfl (by (try simp only [mp]); first | done | rfl | (simp only [ld]; rfl)) ?_; (with_reducible refine (ratio_Is.calls k a1_0 a1_1 true _ A4.out).mono ?_); rintro e w14 ⟨rfl, hb⟩; refine ⟨_, rfl, ?_⟩; replace BK152 := Aside0.mk (blk_below (g := gb152) (o := .cells #[.int .i64 t154, .int .i64 t155, .int .i64 t156, .int .i64 t157, .int .i64 t158, .bool t159, .bool t160] 25 (0, 0)) (by exact rq BK152.out (by rfl)) hb); replace BK153 := Aside0.mk (blk_below (g := gb153) (o := .cells #[.int .i64 a1_0, .int .i64 a1_1] 23 (0, 0)) (by (iterate 7 refine f1 NB153_152 ?_); refine bk ?_; exact BK153.out) hb); replace HB := hb_ w hb; )); (try simp only [Act.put, List.setIfInBounds_toArray, List.set_cons_zero, List.set_cons_succ])
  go_cut [37] (fun v37 wc => ∃ (kq : Nat) (x37_5 : Bool), v37 = .bool x37_5 ∧ Aside0 (span_Has.j0 kq x37_5 t154 t155 t156 t157 t158 t159 t160 a1_0 a1_1 = some r) ∧ Aside0 (kq ≤ k) ∧ Aside0 (wc.heap[gb152]? = some (.cells #[.int .i64 t154, .int .i64 t155, .int .i64 t156, .int .i64 t157, .int .i64 t158, .bool t159, .bool t160] 25 (0, 0))) ∧ Aside0 (wc.heap[gb153]? = some (.cells #[.int .i64 a1_0, .int .i64 a1_1] 23 (0, 0))) ∧ Aside0 (Below w.heap.size w wc))
  case first =>
   have H := HC6.out; clear HC6; by_cases c15 : t160 = true
   ·
    subst c15; rw [if_pos rfl] at H; have H' := Aside0.mk H; clear H; have hnb16 := NB152_153.out; have hnc16 := NB153_152.out; obtain ⟨hcz17_0, hcz17_1, hcz17_2, hcz17_3, hcz17_4, hcz17_5, hcz17_6⟩ := bc7 BK152.out; obtain ⟨hfz17_0, hfz17_1, hfz17_2, hfz17_3, hfz17_4, hfz17_5, hfz17_6⟩ := bf7 BK152.out; go_wp2; go_meet
    case rel => exact ⟨_, (true), (by first | rfl | (simp; done) | (simp [*]; done)), H', ⟨by first | omega | exact Nat.le_refl _⟩, ⟨bk BK152.out⟩, ⟨bk BK153.out⟩, ab2_⟩
   ·
    replace c15 := Bool.eq_false_iff.mpr c15; subst c15; rw [if_neg (show ¬ (false = true) by decide)] at H; replace H := Option.bind_eq_some_iff.mp H; obtain ⟨t162, A180, H⟩ := H; (try dsimp only at H); have A18 := Aside0.mk A180; clear A180; by_cases c19 : t162 = true
    ·
     subst c19; rw [if_pos rfl] at H; replace H := Option.bind_eq_some_iff.mp H; obtain ⟨t163, A200, H⟩ := H; (try dsimp only at H); have A20 := Aside0.mk A200; clear A200; by_cases c21 : t163 < 0
     ·
      rw [if_pos c21] at H; have c21b0 : decide (t163 < 0) = true := decide_eq_true c21; clear c21; (first | rw [c21b0] | (simp only [i64_w, i32_w]; rw [c21b0]) | skip); have H' := Aside0.mk H; clear H; have hnb22 := NB152_153.out; have hnc22 := NB153_152.out; obtain ⟨hcz23_0, hcz23_1, hcz23_2, hcz23_3, hcz23_4, hcz23_5, hcz23_6⟩ := bc7 BK152.out; obtain ⟨hfz23_0, hfz23_1, hfz23_2, hfz23_3, hfz23_4, hfz23_5, hfz23_6⟩ := bf7 BK152.out; go_wp2_with (first | (go_at_call 24; (with_reducible refine (ratio_Is.calls k t154 t155 true _ A18.out).mono ?_); rintro e w24 ⟨rfl, hb⟩; replace BK152 := kb BK152 hb; replace BK153 := kb BK153 hb; replace HB := hb_ w hb; obtain ⟨hcz25_0, hcz25_1⟩ := bc2 BK153.out; obtain ⟨hfz25_0, hfz25_1⟩ := bf2 BK153.out; obtain ⟨hcz26_0, hcz26_1, hcz26_2, hcz26_3, hcz26_4, hcz26_5, hcz26_6⟩ := bc7 BK152.out; obtain ⟨hfz26_0, hfz26_1, hfz26_2, hfz26_3, hfz26_4, hfz26_5, hfz26_6⟩ := bf7 BK152.out) | (go_at_call 25; (with_reducible refine (ratio_Cmp.calls k a1_0 a1_1 t154 t155 t163 _ A20.out).mono ?_); rintro e w27 ⟨rfl, hb⟩; replace BK152 := kb BK152 hb; replace BK153 := kb BK153 hb; replace HB := hb_ w hb; )); go_meet
      case rel => exact ⟨_, (true), (by first | rfl | (simp; done) | (simp [*]; done)), H', ⟨by first | omega | exact Nat.le_refl _⟩, ⟨bk BK152.out⟩, ⟨bk BK153.out⟩, ab2_⟩
     ·
      rw [if_neg c21] at H; have c21b0 : decide (t163 < 0) = false := decide_eq_false c21; clear c21; (first | rw [c21b0] | (simp only [i64_w, i32_w]; rw [c21b0]) | skip); replace H := Option.bind_eq_some_iff.mp H; obtain ⟨t164, A280, H⟩ := H; (try dsimp only at H); have A28 := Aside0.mk A280; clear A280; by_cases c29 : t164 = true
      ·
       subst c29; rw [if_pos rfl] at H; replace H := Option.bind_eq_some_iff.mp H; obtain ⟨t165, A300, H⟩ := H; (try dsimp only at H); have A30 := Aside0.mk A300; clear A300; have H' := Aside0.mk H; clear H; have hnb31 := NB152_153.out; have hnc31 := NB153_152.out; obtain ⟨hcz32_0, hcz32_1, hcz32_2, hcz32_3, hcz32_4, hcz32_5, hcz32_6⟩ := bc7 BK152.out; obtain ⟨hfz32_0, hfz32_1, hfz32_2, hfz32_3, hfz32_4, hfz32_5, hfz32_6⟩ := bf7 BK152.out; go_wp2_with (first | (go_at_call 24; (with_reducible refine (ratio_Is.calls k t154 t155 true _ A18.out).mono ?_); rintro e w33 ⟨rfl, hb⟩; replace BK152 := kb BK152 hb; replace BK153 := kb BK153 hb; replace HB := hb_ w hb; obtain ⟨hcz34_0, hcz34_1⟩ := bc2 BK153.out; obtain ⟨hfz34_0, hfz34_1⟩ := bf2 BK153.out; obtain ⟨hcz35_0, hcz35_1, hcz35_2, hcz35_3, hcz35_4, hcz35_5, hcz35_6⟩ := bc7 BK152.out; obtain ⟨hfz35_0, hfz35_1, hfz35_2, hfz35_3, hfz35_4, hfz35_5, hfz35_6⟩ := bf7 BK152.out) | (go_at_call 25; (with_reducible refine (ratio_Cmp.calls k a1_0 a1_1 t154 t155 t163 _ A20.out).mono ?_); rintro e w36 ⟨rfl, hb⟩; replace BK152 := kb BK152 hb; replace BK153 := kb BK153 hb; replace HB := hb_ w hb; obtain ⟨hcz37_0, hcz37_1, hcz37_2, hcz37_3, hcz37_4, hcz37_5, hcz37_6⟩ := bc7 BK152.out; obtain ⟨hfz37_0, hfz37_1, hfz37_2, hfz37_3, hfz37_4, hfz37_5, hfz37_6⟩ := bf7 BK152.out) | (go_at_call 24; (with_reducible refine (ratio_Is.calls k t156 t157 true _ A28.out).mono ?_); rintro e w38 ⟨rfl, hb⟩; replace BK152 := kb BK152 hb; replace BK153 := kb BK153 hb; replace HB := hb_ w hb; obtain ⟨hcz39_0, hcz39_1⟩ := bc2 BK153.out; obtain ⟨hfz39_0, hfz39_1⟩ := bf2 BK153.out; obtain ⟨hcz40_0, hcz40_1, hcz40_2, hcz40_3, hcz40_4, hcz40_5, hcz40_6⟩ := bc7 BK152.out; obtain ⟨hfz40_0, hfz40_1, hfz40_2, hfz40_3, hfz40_4, hfz40_5, hfz40_6⟩ := bf7 BK152.out) | (go_at_call 25; (with_reducible refine (ratio_Cmp.calls k a1_0 a1_1 t156 t157 t165 _ A30.out).mono ?_); rintro e w41 ⟨rfl, hb⟩; replace BK152 := kb BK152 hb; replace BK153 := kb BK153 hb; replace HB := hb_ w hb; )); go_meet
       case rel => exact ⟨_, (decide (t165 > 0)), (by first | rfl | (simp; done) | (simp [*]; done)), H', ⟨by first | omega | exact Nat.le_refl _⟩, ⟨bk BK152.out⟩, ⟨bk BK153.out⟩, ab2_⟩
      ·
       replace c29 := Bool.eq_false_iff.mpr c29; subst c29; rw [if_neg (show ¬ (false = true) by decide)] at H; have H' := Aside0.mk H; clear H; have hnb42 := NB152_153.out; have hnc42 := NB153_152.out; obtain ⟨hcz43_0, hcz43_1, hcz43_2, hcz43_3, hcz43_4, hcz43_5, hcz43_6⟩ := bc7 BK152.out; obtain ⟨hfz43_0, hfz43_1, hfz43_2, hfz43_3, hfz43_4, hfz43_5, hfz43_6⟩ := bf7 BK152.out; go_wp2_with (first | (go_at_call 24; (with_reducible refine (ratio_Is.calls k t154 t155 true _ A18.out).mono ?_); rintro e w44 ⟨rfl, hb⟩; replace BK152 := kb BK152 hb; replace BK153 := kb BK153 hb; replace HB := hb_ w hb; obtain ⟨hcz45_0, hcz45_1⟩ := bc2 BK153.out; obtain ⟨hfz45_0, hfz45_1⟩ := bf2 BK153.out; obtain ⟨hcz46_0, hcz46_1, hcz46_2, hcz46_3, hcz46_4, hcz46_5, hcz46_6⟩ := bc7 BK152.out; obtain ⟨hfz46_0, hfz46_1, hfz46_2, hfz46_3, hfz46_4, hfz46_5, hfz46_6⟩ := bf7 BK152.out) | (go_at_call 25; (with_reducible refine (ratio_Cmp.calls k a1_0 a1_1 t154 t155 t163 _ A20.out).mono ?_); rintro e w47 ⟨rfl, hb⟩; replace BK152 := kb BK152 hb; replace BK153 := kb BK153 hb; replace HB := hb_ w hb; obtain ⟨hcz48_0, hcz48_1, hcz48_2, hcz48_3, hcz48_4, hcz48_5, hcz48_6⟩ := bc7 BK152.out; obtain ⟨hfz48_0, hfz48_1, hfz48_2, hfz48_3, hfz48_4, hfz48_5, hfz48_6⟩ := bf7 BK152.out) | (go_at_call 24; (with_reducible refine (ratio_Is.calls k t156 t157 false _ A28.out).mono ?_); rintro e w49 ⟨rfl, hb⟩; replace BK152 := kb BK152 hb; replace BK153 := kb BK153 hb; replace HB := hb_ w hb; )); go_meet
       case rel => exact ⟨_, (false), (by first | rfl | (simp; done) | (simp [*]; done)), H', ⟨by first | omega | exact Nat.le_refl _⟩, ⟨bk BK152.out⟩, ⟨bk BK153.out⟩, ab2_⟩
    ·
     replace c19 := Bool.eq_false_iff.mpr c19; subst c19; rw [if_neg (show ¬ (false = true) by decide)] at H; replace H := Option.bind_eq_some_iff.mp H; obtain ⟨t166, A500, H⟩ := H; (try dsimp only at H); have A50 := Aside0.mk A500; clear A500; by_cases c51 : t166 = true
     ·
      subst c51; rw [if_pos rfl] at H; replace H := Option.bind_eq_some_iff.mp H; obtain ⟨t167, A520, H⟩ := H; (try dsimp only at H); have A52 := Aside0.mk A520; clear A520; have H' := Aside0.mk H; clear H; have hnb53 := NB152_153.out; have hnc53 := NB153_152.out; obtain ⟨hcz54_0, hcz54_1, hcz54_2, hcz54_3, hcz54_4, hcz54_5, hcz54_6⟩ := bc7 BK152.out; obtain ⟨hfz54_0, hfz54_1, hfz54_2, hfz54_3, hfz54_4, hfz54_5, hfz54_6⟩ := bf7 BK152.out; go_wp2_with (first | (go_at_call 24; (with_reducible refine (ratio_Is.calls k t154 t155 false _ A18.out).mono ?_); rintro e w55 ⟨rfl, hb⟩; replace BK152 := kb BK152 hb; replace BK153 := kb BK153 hb; replace HB := hb_ w hb; obtain ⟨hcz56_0, hcz56_1, hcz56_2, hcz56_3, hcz56_4, hcz56_5, hcz56_6⟩ := bc7 BK152.out; obtain ⟨hfz56_0, hfz56_1, hfz56_2, hfz56_3, hfz56_4, hfz56_5, hfz56_6⟩ := bf7 BK152.out) | (go_at_call 24; (with_reducible refine (ratio_Is.calls k t156 t157 true _ A50.out).mono ?_); rintro e w57 ⟨rfl, hb⟩; replace BK152 := kb BK152 hb; replace BK153 := kb BK153 hb; replace HB := hb_ w hb; obtain ⟨hcz58_0, hcz58_1⟩ := bc2 BK153.out; obtain ⟨hfz58_0, hfz58_1⟩ := bf2 BK153.out; obtain ⟨hcz59_0, hcz59_1, hcz59_2, hcz59_3, hcz59_4, hcz59_5, hcz59_6⟩ := bc7 BK152.out; obtain ⟨hfz59_0, hfz59_1, hfz59_2, hfz59_3, hfz59_4, hfz59_5, hfz59_6⟩ := bf7 BK152.out) | (go_at_call 25; (with_reducible refine (ratio_Cmp.calls k a1_0 a1_1 t156 t157 t167 _ A52.out).mono ?_); rintro e w60 ⟨rfl, hb⟩; replace BK152 := kb BK152 hb; replace BK153 := kb BK153 hb; replace HB := hb_ w hb; )); go_meet
      case rel => exact ⟨_, (decide (t167 > 0)), (by first | rfl | (simp; done) | (simp [*]; done)), H', ⟨by first | omega | exact Nat.le_refl _⟩, ⟨bk BK152.out⟩, ⟨bk BK153.out⟩, ab2_⟩
     ·
      replace c51 := Bool.eq_false_iff.mpr c51; subst c51; rw [if_neg (show ¬ (false = true) by decide)] at H; have H' := Aside0.mk H; clear H; have hnb61 := NB152_153.out; have hnc61 := NB153_152.out; obtain ⟨hcz62_0, hcz62_1, hcz62_2, hcz62_3, hcz62_4, hcz62_5, hcz62_6⟩ := bc7 BK152.out; obtain ⟨hfz62_0, hfz62_1, hfz62_2, hfz62_3, hfz62_4, hfz62_5, hfz62_6⟩ := bf7 BK152.out; go_wp2_with (first | (go_at_call 24; (with_reducible refine (ratio_Is.calls k t154 t155 false _ A18.out).mono ?_); rintro e w63 ⟨rfl, hb⟩; replace BK152 := kb BK152 hb; replace BK153 := kb BK153 hb; replace HB := hb_ w hb; obtain ⟨hcz64_0, hcz64_1, hcz64_2, hcz64_3, hcz64_4, hcz64_5, hcz64_6⟩ := bc7 BK152.out; obtain ⟨hfz64_0, hfz64_1, hfz64_2, hfz64_3, hfz64_4, hfz64_5, hfz64_6⟩ := bf7 BK152.out) | (go_at_call 24; (with_reducible refine (ratio_Is.calls k t156 t157 false _ A50.out).mono ?_); rintro e w65 ⟨rfl, hb⟩; replace BK152 := kb BK152 hb; replace BK153 := kb BK153 hb; replace HB := hb_ w hb; )); go_meet
      case rel => exact ⟨_, (false), (by first | rfl | (simp; done) | (simp [*]; done)), H', ⟨by first | omega | exact Nat.le_refl _⟩, ⟨bk BK152.out⟩, ⟨bk BK153.out⟩, ab2_⟩
  case rest =>
   clear HC6; (try clear c5); (try clear hcz10_0 hcz10_1 hcz10_2 hcz10_3 hcz10_4 hcz10_5 hcz10_6); (try clear hcz12_0 hcz12_1 hcz12_2 hcz12_3 hcz12_4 hcz12_5 hcz12_6); (try clear hcz13_0 hcz13_1); (try clear hfz10_0 hfz10_1 hfz10_2 hfz10_3 hfz10_4 hfz10_5 hfz10_6); (try clear hfz12_0 hfz12_1 hfz12_2 hfz12_3 hfz12_4 hfz12_5 hfz12_6); (try clear hfz13_0 hfz13_1); obtain ⟨kq, x37_5, rfl, HA, HJ5, BK152, BK153, HB⟩ := hcut; cases kq with
   | zero => exact absurd HA.out (by simp [span_Has.j0])
   | succ kj5 =>
    have H := HA.out; clear HA; simp only [span_Has.j0] at H; by_cases c66 : x37_5 = true
    · subst c66; rw [if_pos rfl] at H; obtain rfl := Option.some.inj H; go_wp2; go_ret; exact en_
    ·
     replace c66 := Bool.eq_false_iff.mpr c66; subst c66; rw [if_neg (show ¬ (false = true) by decide)] at H; by_cases c67 : t158 = 0
     · rw [if_pos c67] at H; have c67b0 : (t158 == 0) = true := beq_iff_eq.mpr c67; have c67b1 : (t158 != 0) = false := bne_eq_false_iff_eq.mpr c67; clear c67; obtain rfl := Option.some.inj H; have hnb68 := NB152_153.out; have hnc68 := NB153_152.out; obtain ⟨hcz69_0, hcz69_1, hcz69_2, hcz69_3, hcz69_4, hcz69_5, hcz69_6⟩ := bc7 BK152.out; obtain ⟨hfz69_0, hfz69_1, hfz69_2, hfz69_3, hfz69_4, hfz69_5, hfz69_6⟩ := bf7 BK152.out; go_wp2; go_ret; exact en_
     ·
      rw [if_neg c67] at H; have c67b0 : (t158 == 0) = false := beq_eq_false_iff_ne.mpr c67; have c67b1 : (t158 != 0) = true := bne_iff_ne.mpr c67; by_cases c70 : a1_1 = 0
      · rw [if_pos c70] at H; exact absurd H (by simp)
      · rw [if_neg c70] at H; have c70b0 : (a1_1 == 0) = false := beq_eq_false_iff_ne.mpr c70; have c70b1 : (a1_1 != 0) = true := bne_iff_ne.mpr c70; obtain rfl := Option.some.inj H; have hnb71 := NB152_153.out; have hnc71 := NB153_152.out; obtain ⟨hcz72_0, hcz72_1, hcz72_2, hcz72_3, hcz72_4, hcz72_5, hcz72_6⟩ := bc7 BK152.out; obtain ⟨hfz72_0, hfz72_1, hfz72_2, hfz72_3, hfz72_4, hfz72_5, hfz72_6⟩ := bf7 BK152.out; obtain ⟨hcz73_0, hcz73_1⟩ := bc2 BK153.out; obtain ⟨hfz73_0, hfz73_1⟩ := bf2 BK153.out; go_wp2; go_ret; exact en_
 · replace c5 := Bool.eq_false_iff.mpr c5; subst c5; rw [if_neg (show ¬ (false = true) by decide)] at H; obtain rfl := Option.some.inj H; go_enter Tryz.func6, Tryz.ntmps6; go_wp2_with (first | ((with_reducible refine gate_dst (N := 2) rfl ?_); refine bx_ 2 #[.int .i64 a0_0, .int .i64 a0_1, .int .i64 a0_2, .int .i64 a0_3, .int .i64 a0_4, .bool a0_5, .bool a0_6] 25 ?_; intro gb152 hg w74 BK152 hb; have GE152 := hz_ hg HB; replace HB := hs HB hb; clear hb hg) | ((with_reducible refine gate_dst (N := 3) rfl ?_); refine bx_ 3 #[.int .i64 a1_0, .int .i64 a1_1] 23 ?_; intro gb153 hg w75 BK153 hb; have GE153 := ge_ w hg; have NB152_153 := nlk hg BK152; have NB153_152 := ngk hg BK152; replace BK152 := kb BK152 hb; replace HB := hb_ w hb; clear hb hg; have hnb76 := NB152_153.out; have hnc76 := NB153_152.out; obtain ⟨hcz77_0, hcz77_1, hcz77_2, hcz77_3, hcz77_4, hcz77_5, hcz77_6⟩ := bc7 BK152.out; obtain ⟨hfz77_0, hfz77_1, hfz77_2, hfz77_3, hfz77_4, hfz77_5, hfz77_6⟩ := bf7 BK152.out) | ((with_reducible refine gate_callee (f := 30) rfl ?_); refine goesL_ (some 6) rfl rfl Tryz.func30 (by kernel_rfl) rfl #[.agg #[.int .i64 a0_0, .int .i64 a0_1, .int .i64 a0_2, .int .i64 a0_3, .int .i64 a0_4, .bool a0_5, .bool a0_6]] rfl (by (try simp only [mp]); first | done | rfl | (simp only [ld]; rfl)) ?_; (with_reducible refine (span_valid.calls k a0_0 a0_1 a0_2 a0_3 a0_4 a0_5 a0_6 t154 t155 t156 t157 t158 t159 t160 _ A3.out).mono ?_); rintro e w78 ⟨rfl, hb⟩; refine ⟨_, rfl, ?_⟩; replace BK152 := kb BK152 hb; replace BK153 := kb BK153 hb; replace HB := hb_ w hb; obtain ⟨hcz79_0, hcz79_1, hcz79_2, hcz79_3, hcz79_4, hcz79_5, hcz79_6⟩ := bc7 BK152.out; obtain ⟨hfz79_0, hfz79_1, hfz79_2, hfz79_3, hfz79_4, hfz79_5, hfz79_6⟩ := bf7 BK152.out; obtain ⟨hcz80_0, hcz80_1⟩ := bc2 BK153.out; obtain ⟨hfz80_0, hfz80_1⟩ := bf2 BK153.out) | ((with_reducible refine gate_callee (f := 24) rfl ?_); refine goesL_ (some 8) rfl rfl Tryz.func24 (by kernel_rfl) rfl #[.agg #[.int .i64 a1_0, .int .i64 a1_1]] rfl (by (try simp only [mp]); first | done | rfl | (simp only [ld]; rfl)) ?_; (with_reducible refine (ratio_Is.calls k a1_0 a1_1 false _ A4.out).mono ?_); rintro e w81 ⟨rfl, hb⟩; refine ⟨_, rfl, ?_⟩; replace BK152 := Aside0.mk (blk_below (g := gb152) (o := .cells #[.int .i64 t154, .int .i64 t155, .int .i64 t156, .int .i64 t157, .int .i64 t158, .bool t159, .bool t160] 25 (0, 0)) (by exact rq BK152.out (by rfl)) hb); replace BK153 := Aside0.mk (blk_below (g := gb153) (o := .cells #[.int .i64 a1_0, .int .i64 a1_1] 23 (0, 0)) (by (iterate 7 refine f1 NB153_152 ?_); refine bk ?_; exact BK153.out) hb); replace HB := hb_ w hb; obtain ⟨hcz82_0, hcz82_1, hcz82_2, hcz82_3, hcz82_4, hcz82_5, hcz82_6⟩ := bc7 BK152.out; obtain ⟨hfz82_0, hfz82_1, hfz82_2, hfz82_3, hfz82_4, hfz82_5, hfz82_6⟩ := bf7 BK152.out)); go_ret; exact en_
def serinetteref03_All.f  : Option (Int × Int × Int × Int × Int × Bool × Bool) := some (0, 0, 0, 0, 0, true, false)
set_option maxHeartbeats 8000000 in
set_option maxRecDepth 100000 in
theorem serinetteref03_All.calls  (r1 : Int) (r2 : Int) (r3 : Int) (r4 : Int) (r5 : Int) (r6 : Bool) (r7 : Bool) (w : World) (h : serinetteref03_All.f  = some (r1, r2, r3, r4, r5, r6, r7)) :
  Calls Tryz.prog 21 #[] w fun e w' => e = .returned (.agg #[.int .i64 r1, .int .i64 r2, .int .i64 r3, .int .i64 r4, .int .i64 r5, .bool r6, .bool r7]) ∧ Below w.heap.size w w' := by
 have hu25 := Tryz.underlying25; have HB := Aside0.mk (Below.refl w.heap.size w); have H : (some (0, 0, 0, 0, 0, true, false)) = some (r1, r2, r3, r4, r5, r6, r7) := h; clear h; simp only [Option.some.injEq, Prod.mk.injEq] at H; obtain ⟨rfl, rfl, rfl, rfl, rfl, rfl, rfl⟩ := H; go_enter Tryz.func21, Tryz.ntmps21; go_wp2_with (first | ((with_reducible refine gate_dst (N := 0) rfl ?_); refine bx_ 0 #[.int .i64 0, .int .i64 0, .int .i64 0, .int .i64 0, .int .i64 0, .bool false, .bool false] 25 ?_; intro gb168 hg w1 BK168 hb; have GE168 := hz_ hg HB; replace HB := hs HB hb; clear hb hg; obtain ⟨hcz2_0, hcz2_1, hcz2_2, hcz2_3, hcz2_4, hcz2_5, hcz2_6⟩ := bc7 BK168.out; obtain ⟨hfz2_0, hfz2_1, hfz2_2, hfz2_3, hfz2_4, hfz2_5, hfz2_6⟩ := bf7 BK168.out)); refine bodyPost_ret (results_cell_row rfl _ _ gb168 25 #[.int .i64 0, .int .i64 0, .int .i64 0, .int .i64 0, .int .i64 0, .bool true, .bool false] (0, 0) _ rfl (by exact rq BK168.out (by rfl)) Tryz.underlying25 rfl (by kernel_rfl)) rfl ?_; exact en_
def serinetteref03_Clean.f (k : Nat) (a0_0 : Int) (a0_1 : Int) (a0_2 : Int) (a0_3 : Int) (a0_4 : Int) (a0_5 : Bool) (a0_6 : Bool) : Option (Int × Int × Int × Int × Int × Bool × Bool) := (serinetteref03_Valid.f k a0_0 a0_1 a0_2 a0_3 a0_4 a0_5 a0_6).bind fun t171 => (if t171 = true then (some (a0_0, a0_1, a0_2, a0_3, a0_4, a0_5, a0_6)) else ((serinetteref03_All.f).bind fun bt172 => (some (bt172.1, bt172.2.1, bt172.2.2.1, bt172.2.2.2.1, bt172.2.2.2.2.1, bt172.2.2.2.2.2.1, bt172.2.2.2.2.2.2))))
theorem serinetteref03_Clean.mono : ∀ a0 a1 a2 a3 a4 a5 a6 k, LeO (serinetteref03_Clean.f k a0 a1 a2 a3 a4 a5 a6) (serinetteref03_Clean.f (k + 1) a0 a1 a2 a3 a4 a5 a6) := by
 intro a0 a1 a2 a3 a4 a5 a6 k
 unfold serinetteref03_Clean.f
 repeat' first
   | (with_reducible exact serinetteref03_Valid.mono _ _ _ _ _ _ _ _)
   | (with_reducible exact LeO.refl _)
   | (with_reducible exact LeO.none _)
   | (with_reducible refine LeO.ite ?_ ?_)
   | (with_reducible refine LeO.bind ?_ (fun _ => ?_))
   | exact serinetteref03_Valid.mono _ _ _ _ _ _ _ _
   | exact LeO.none _
   | refine LeO.ite ?_ ?_
   | refine LeO.bind ?_ (fun _ => ?_)
set_option maxHeartbeats 8000000 in
set_option maxRecDepth 100000 in
theorem serinetteref03_Clean.calls (k : Nat) (a0_0 : Int) (a0_1 : Int) (a0_2 : Int) (a0_3 : Int) (a0_4 : Int) (a0_5 : Bool) (a0_6 : Bool) (r1 : Int) (r2 : Int) (r3 : Int) (r4 : Int) (r5 : Int) (r6 : Bool) (r7 : Bool) (w : World) (h : serinetteref03_Clean.f k a0_0 a0_1 a0_2 a0_3 a0_4 a0_5 a0_6 = some (r1, r2, r3, r4, r5, r6, r7)) :
  Calls Tryz.prog 31 #[.agg #[.int .i64 a0_0, .int .i64 a0_1, .int .i64 a0_2, .int .i64 a0_3, .int .i64 a0_4, .bool a0_5, .bool a0_6]] w fun e w' => e = .returned (.agg #[.int .i64 r1, .int .i64 r2, .int .i64 r3, .int .i64 r4, .int .i64 r5, .bool r6, .bool r7]) ∧ Below w.heap.size w w' := by
 have hu25 := Tryz.underlying25; have HB := Aside0.mk (Below.refl w.heap.size w); have H : ((serinetteref03_Valid.f k a0_0 a0_1 a0_2 a0_3 a0_4 a0_5 a0_6).bind fun t171 => (if t171 = true then (some (a0_0, a0_1, a0_2, a0_3, a0_4, a0_5, a0_6)) else ((serinetteref03_All.f).bind fun bt172 => (some (bt172.1, bt172.2.1, bt172.2.2.1, bt172.2.2.2.1, bt172.2.2.2.2.1, bt172.2.2.2.2.2.1, bt172.2.2.2.2.2.2))))) = some (r1, r2, r3, r4, r5, r6, r7) := h; clear h; replace H := Option.bind_eq_some_iff.mp H; obtain ⟨t171, A20, H⟩ := H; (try dsimp only at H); have A2 := Aside0.mk A20; clear A20; by_cases c3 : t171 = true
 · subst c3; rw [if_pos rfl] at H; simp only [Option.some.injEq, Prod.mk.injEq] at H; obtain ⟨rfl, rfl, rfl, rfl, rfl, rfl, rfl⟩ := H; go_enter Tryz.func31, Tryz.ntmps31; go_wp2_with (first | ((with_reducible refine gate_dst (N := 1) rfl ?_); refine bx_ 1 #[.int .i64 a0_0, .int .i64 a0_1, .int .i64 a0_2, .int .i64 a0_3, .int .i64 a0_4, .bool a0_5, .bool a0_6] 25 ?_; intro gb169 hg w4 BK169 hb; have GE169 := hz_ hg HB; replace HB := hs HB hb; clear hb hg) | ((with_reducible refine gate_dst (N := 2) rfl ?_); refine bx_ 2 #[.int .i64 0, .int .i64 0, .int .i64 0, .int .i64 0, .int .i64 0, .bool false, .bool false] 25 ?_; intro gb170 hg w5 BK170 hb; have GE170 := ge_ w hg; have NB169_170 := nlk hg BK169; have NB170_169 := ngk hg BK169; replace BK169 := kb BK169 hb; replace HB := hb_ w hb; clear hb hg; have hnb6 := NB169_170.out; have hnc6 := NB170_169.out; obtain ⟨hcz7_0, hcz7_1, hcz7_2, hcz7_3, hcz7_4, hcz7_5, hcz7_6⟩ := bc7 BK169.out; obtain ⟨hfz7_0, hfz7_1, hfz7_2, hfz7_3, hfz7_4, hfz7_5, hfz7_6⟩ := bf7 BK169.out) | ((with_reducible refine gate_callee (f := 5) rfl ?_); refine goesL_ (some 4) rfl rfl Tryz.func5 (by kernel_rfl) rfl #[.agg #[.int .i64 a0_0, .int .i64 a0_1, .int .i64 a0_2, .int .i64 a0_3, .int .i64 a0_4, .bool a0_5, .bool a0_6]] rfl (by (try simp only [mp]); first | done | rfl | (simp only [ld]; rfl)) ?_; (with_reducible refine (serinetteref03_Valid.calls k a0_0 a0_1 a0_2 a0_3 a0_4 a0_5 a0_6 true _ A2.out).mono ?_); rintro e w8 ⟨rfl, hb⟩; refine ⟨_, rfl, ?_⟩; replace BK169 := kb BK169 hb; replace BK170 := kb BK170 hb; replace HB := hb_ w hb; obtain ⟨hcz9_0, hcz9_1, hcz9_2, hcz9_3, hcz9_4, hcz9_5, hcz9_6⟩ := bc7 BK169.out; obtain ⟨hfz9_0, hfz9_1, hfz9_2, hfz9_3, hfz9_4, hfz9_5, hfz9_6⟩ := bf7 BK169.out; obtain ⟨hcz10_0, hcz10_1, hcz10_2, hcz10_3, hcz10_4, hcz10_5, hcz10_6⟩ := bc7 BK170.out; obtain ⟨hfz10_0, hfz10_1, hfz10_2, hfz10_3, hfz10_4, hfz10_5, hfz10_6⟩ := bf7 BK170.out)); refine bodyPost_ret (results_cell_row rfl _ _ gb170 25 #[.int .i64 a0_0, .int .i64 a0_1, .int .i64 a0_2, .int .i64 a0_3, .int .i64 a0_4, .bool a0_5, .bool a0_6] (0, 0) _ rfl (by exact rq BK170.out (by rfl)) Tryz.underlying25 rfl (by kernel_rfl)) rfl ?_; exact en_
 · replace c3 := Bool.eq_false_iff.mpr c3; subst c3; rw [if_neg (show ¬ (false = true) by decide)] at H; replace H := Option.bind_eq_some_iff.mp H; obtain ⟨⟨t172, t173, t174, t175, t176, t177, t178⟩, A110, H⟩ := H; (try dsimp only at H); have A11 := Aside0.mk A110; clear A110; simp only [Option.some.injEq, Prod.mk.injEq] at H; obtain ⟨rfl, rfl, rfl, rfl, rfl, rfl, rfl⟩ := H; go_enter Tryz.func31, Tryz.ntmps31; go_wp2_with (first | ((with_reducible refine gate_dst (N := 1) rfl ?_); refine bx_ 1 #[.int .i64 a0_0, .int .i64 a0_1, .int .i64 a0_2, .int .i64 a0_3, .int .i64 a0_4, .bool a0_5, .bool a0_6] 25 ?_; intro gb169 hg w12 BK169 hb; have GE169 := hz_ hg HB; replace HB := hs HB hb; clear hb hg) | ((with_reducible refine gate_dst (N := 2) rfl ?_); refine bx_ 2 #[.int .i64 0, .int .i64 0, .int .i64 0, .int .i64 0, .int .i64 0, .bool false, .bool false] 25 ?_; intro gb170 hg w13 BK170 hb; have GE170 := ge_ w hg; have NB169_170 := nlk hg BK169; have NB170_169 := ngk hg BK169; replace BK169 := kb BK169 hb; replace HB := hb_ w hb; clear hb hg; have hnb14 := NB169_170.out; have hnc14 := NB170_169.out; obtain ⟨hcz15_0, hcz15_1, hcz15_2, hcz15_3, hcz15_4, hcz15_5, hcz15_6⟩ := bc7 BK169.out; obtain ⟨hfz15_0, hfz15_1, hfz15_2, hfz15_3, hfz15_4, hfz15_5, hfz15_6⟩ := bf7 BK169.out) | ((with_reducible refine gate_callee (f := 5) rfl ?_); refine goesL_ (some 4) rfl rfl Tryz.func5 (by kernel_rfl) rfl #[.agg #[.int .i64 a0_0, .int .i64 a0_1, .int .i64 a0_2, .int .i64 a0_3, .int .i64 a0_4, .bool a0_5, .bool a0_6]] rfl (by (try simp only [mp]); first | done | rfl | (simp only [ld]; rfl)) ?_; (with_reducible refine (serinetteref03_Valid.calls k a0_0 a0_1 a0_2 a0_3 a0_4 a0_5 a0_6 false _ A2.out).mono ?_); rintro e w16 ⟨rfl, hb⟩; refine ⟨_, rfl, ?_⟩; replace BK169 := kb BK169 hb; replace BK170 := kb BK170 hb; replace HB := hb_ w hb; ) | ((with_reducible refine gate_callee (f := 21) rfl ?_); refine goesL_ (some 6) rfl rfl Tryz.func21 (by kernel_rfl) rfl #[] rfl (by (try simp only [mp]); first | done | rfl | (simp only [ld]; rfl)) ?_; (with_reducible refine (serinetteref03_All.calls  t172 t173 t174 t175 t176 t177 t178 _ A11.out).mono ?_); rintro e w17 ⟨rfl, hb⟩; refine ⟨_, rfl, ?_⟩; replace BK169 := kb BK169 hb; replace BK170 := kb BK170 hb; replace HB := hb_ w hb; obtain ⟨hcz18_0, hcz18_1, hcz18_2, hcz18_3, hcz18_4, hcz18_5, hcz18_6⟩ := bc7 BK170.out; obtain ⟨hfz18_0, hfz18_1, hfz18_2, hfz18_3, hfz18_4, hfz18_5, hfz18_6⟩ := bf7 BK170.out)); refine bodyPost_ret (results_cell_row rfl _ _ gb170 25 #[.int .i64 t172, .int .i64 t173, .int .i64 t174, .int .i64 t175, .int .i64 t176, .bool t177, .bool t178] (0, 0) _ rfl (by exact rq BK170.out (by rfl)) Tryz.underlying25 rfl (by kernel_rfl)) rfl ?_; exact en_
def serinetteref03_Has.j0 : Nat → Bool → Int → Int → Int → Int → Int → Bool → Bool → Int → Int → Option (Bool)
 | 0, _, _, _, _, _, _, _, _, _, _ => none
 | k + 1, x37, x180000, x180001, x180002, x180003, x180004, x180005, x180006, x181000, x181001 => if x37 = true then (some false) else (if x180004 = 0 then (some true) else (if x181001 = 0 then (none) else (some ((Int.tmod x180004 x181001) == 0))))
def serinetteref03_Has.f (k : Nat) (a0_0 : Int) (a0_1 : Int) (a0_2 : Int) (a0_3 : Int) (a0_4 : Int) (a0_5 : Bool) (a0_6 : Bool) (a1_0 : Int) (a1_1 : Int) : Option (Bool) := (serinetteref03_Clean.f k a0_0 a0_1 a0_2 a0_3 a0_4 a0_5 a0_6).bind fun bt181 => ((serinetteref01_Is.f k a1_0 a1_1).bind fun t188 => (if t188 = true then (if bt181.2.2.2.2.2.2 = true then (serinetteref03_Has.j0 k true bt181.1 bt181.2.1 bt181.2.2.1 bt181.2.2.2.1 bt181.2.2.2.2.1 bt181.2.2.2.2.2.1 bt181.2.2.2.2.2.2 a1_0 a1_1) else ((serinetteref01_Is.f k bt181.1 bt181.2.1).bind fun t189 => (if t189 = true then ((serinetteref01_Cmp.f k a1_0 a1_1 bt181.1 bt181.2.1).bind fun t190 => (if t190 < 0 then (serinetteref03_Has.j0 k true bt181.1 bt181.2.1 bt181.2.2.1 bt181.2.2.2.1 bt181.2.2.2.2.1 bt181.2.2.2.2.2.1 bt181.2.2.2.2.2.2 a1_0 a1_1) else ((serinetteref01_Is.f k bt181.2.2.1 bt181.2.2.2.1).bind fun t191 => (if t191 = true then ((serinetteref01_Cmp.f k a1_0 a1_1 bt181.2.2.1 bt181.2.2.2.1).bind fun t192 => (serinetteref03_Has.j0 k (decide (t192 > 0)) bt181.1 bt181.2.1 bt181.2.2.1 bt181.2.2.2.1 bt181.2.2.2.2.1 bt181.2.2.2.2.2.1 bt181.2.2.2.2.2.2 a1_0 a1_1)) else (serinetteref03_Has.j0 k false bt181.1 bt181.2.1 bt181.2.2.1 bt181.2.2.2.1 bt181.2.2.2.2.1 bt181.2.2.2.2.2.1 bt181.2.2.2.2.2.2 a1_0 a1_1))))) else ((serinetteref01_Is.f k bt181.2.2.1 bt181.2.2.2.1).bind fun t193 => (if t193 = true then ((serinetteref01_Cmp.f k a1_0 a1_1 bt181.2.2.1 bt181.2.2.2.1).bind fun t194 => (serinetteref03_Has.j0 k (decide (t194 > 0)) bt181.1 bt181.2.1 bt181.2.2.1 bt181.2.2.2.1 bt181.2.2.2.2.1 bt181.2.2.2.2.2.1 bt181.2.2.2.2.2.2 a1_0 a1_1)) else (serinetteref03_Has.j0 k false bt181.1 bt181.2.1 bt181.2.2.1 bt181.2.2.2.1 bt181.2.2.2.2.1 bt181.2.2.2.2.2.1 bt181.2.2.2.2.2.2 a1_0 a1_1)))))) else (some bt181.2.2.2.2.2.1)))
theorem serinetteref03_Has.mono_l : ∀ k, (∀ y0 y1 y2 y3 y4 y5 y6 y7 y8 y9, LeO (serinetteref03_Has.j0 k y0 y1 y2 y3 y4 y5 y6 y7 y8 y9) (serinetteref03_Has.j0 (k + 1) y0 y1 y2 y3 y4 y5 y6 y7 y8 y9))
 | 0 => fun _ _ _ _ _ _ _ _ _ _ r h => by simp [serinetteref03_Has.j0] at h
 | k + 1 => by
  have ih0 := serinetteref03_Has.mono_l k
  ·
   intro y0 y1 y2 y3 y4 y5 y6 y7 y8 y9
   unfold serinetteref03_Has.j0
   repeat' first
   | (with_reducible exact ih0 _ _ _ _ _ _ _ _ _ _)
   | (with_reducible exact serinetteref01_Cmp.mono _ _ _ _ _)
   | (with_reducible exact serinetteref01_Is.mono _ _ _)
   | (with_reducible exact serinetteref03_Clean.mono _ _ _ _ _ _ _ _)
   | (with_reducible exact LeO.refl _)
   | (with_reducible exact LeO.none _)
   | (with_reducible refine LeO.ite ?_ ?_)
   | (with_reducible refine LeO.bind ?_ (fun _ => ?_))
   | exact ih0 _ _ _ _ _ _ _ _ _ _
   | exact serinetteref01_Cmp.mono _ _ _ _ _
   | exact serinetteref01_Is.mono _ _ _
   | exact serinetteref03_Clean.mono _ _ _ _ _ _ _ _
   | exact LeO.none _
   | refine LeO.ite ?_ ?_
   | refine LeO.bind ?_ (fun _ => ?_)
theorem serinetteref03_Has.mono : ∀ a0 a1 a2 a3 a4 a5 a6 a7 a8 k, LeO (serinetteref03_Has.f k a0 a1 a2 a3 a4 a5 a6 a7 a8) (serinetteref03_Has.f (k + 1) a0 a1 a2 a3 a4 a5 a6 a7 a8) := by
 intro a0 a1 a2 a3 a4 a5 a6 a7 a8 k
 have ih0 := serinetteref03_Has.mono_l k
 unfold serinetteref03_Has.f
 repeat' first
   | (with_reducible exact ih0 _ _ _ _ _ _ _ _ _ _)
   | (with_reducible exact serinetteref01_Cmp.mono _ _ _ _ _)
   | (with_reducible exact serinetteref01_Is.mono _ _ _)
   | (with_reducible exact serinetteref03_Clean.mono _ _ _ _ _ _ _ _)
   | (with_reducible exact LeO.refl _)
   | (with_reducible exact LeO.none _)
   | (with_reducible refine LeO.ite ?_ ?_)
   | (with_reducible refine LeO.bind ?_ (fun _ => ?_))
   | exact ih0 _ _ _ _ _ _ _ _ _ _
   | exact serinetteref01_Cmp.mono _ _ _ _ _
   | exact serinetteref01_Is.mono _ _ _
   | exact serinetteref03_Clean.mono _ _ _ _ _ _ _ _
   | exact LeO.none _
   | refine LeO.ite ?_ ?_
   | refine LeO.bind ?_ (fun _ => ?_)
set_option maxHeartbeats 8000000 in
set_option maxRecDepth 100000 in
theorem serinetteref03_Has.calls (k : Nat) (a0_0 : Int) (a0_1 : Int) (a0_2 : Int) (a0_3 : Int) (a0_4 : Int) (a0_5 : Bool) (a0_6 : Bool) (a1_0 : Int) (a1_1 : Int) (r : Bool) (w : World) (h : serinetteref03_Has.f k a0_0 a0_1 a0_2 a0_3 a0_4 a0_5 a0_6 a1_0 a1_1 = some r) :
  Calls Tryz.prog 7 #[.agg #[.int .i64 a0_0, .int .i64 a0_1, .int .i64 a0_2, .int .i64 a0_3, .int .i64 a0_4, .bool a0_5, .bool a0_6], .agg #[.int .i64 a1_0, .int .i64 a1_1]] w fun e w' => e = .returned (.bool r) ∧ Below w.heap.size w w' := by
 have hu25 := Tryz.underlying25; have hu23 := Tryz.underlying23; have HB := Aside0.mk (Below.refl w.heap.size w); have H : ((serinetteref03_Clean.f k a0_0 a0_1 a0_2 a0_3 a0_4 a0_5 a0_6).bind fun bt181 => ((serinetteref01_Is.f k a1_0 a1_1).bind fun t188 => (if t188 = true then (if bt181.2.2.2.2.2.2 = true then (serinetteref03_Has.j0 k true bt181.1 bt181.2.1 bt181.2.2.1 bt181.2.2.2.1 bt181.2.2.2.2.1 bt181.2.2.2.2.2.1 bt181.2.2.2.2.2.2 a1_0 a1_1) else ((serinetteref01_Is.f k bt181.1 bt181.2.1).bind fun t189 => (if t189 = true then ((serinetteref01_Cmp.f k a1_0 a1_1 bt181.1 bt181.2.1).bind fun t190 => (if t190 < 0 then (serinetteref03_Has.j0 k true bt181.1 bt181.2.1 bt181.2.2.1 bt181.2.2.2.1 bt181.2.2.2.2.1 bt181.2.2.2.2.2.1 bt181.2.2.2.2.2.2 a1_0 a1_1) else ((serinetteref01_Is.f k bt181.2.2.1 bt181.2.2.2.1).bind fun t191 => (if t191 = true then ((serinetteref01_Cmp.f k a1_0 a1_1 bt181.2.2.1 bt181.2.2.2.1).bind fun t192 => (serinetteref03_Has.j0 k (decide (t192 > 0)) bt181.1 bt181.2.1 bt181.2.2.1 bt181.2.2.2.1 bt181.2.2.2.2.1 bt181.2.2.2.2.2.1 bt181.2.2.2.2.2.2 a1_0 a1_1)) else (serinetteref03_Has.j0 k false bt181.1 bt181.2.1 bt181.2.2.1 bt181.2.2.2.1 bt181.2.2.2.2.1 bt181.2.2.2.2.2.1 bt181.2.2.2.2.2.2 a1_0 a1_1))))) else ((serinetteref01_Is.f k bt181.2.2.1 bt181.2.2.2.1).bind fun t193 => (if t193 = true then ((serinetteref01_Cmp.f k a1_0 a1_1 bt181.2.2.1 bt181.2.2.2.1).bind fun t194 => (serinetteref03_Has.j0 k (decide (t194 > 0)) bt181.1 bt181.2.1 bt181.2.2.1 bt181.2.2.2.1 bt181.2.2.2.2.1 bt181.2.2.2.2.2.1 bt181.2.2.2.2.2.2 a1_0 a1_1)) else (serinetteref03_Has.j0 k false bt181.1 bt181.2.1 bt181.2.2.1 bt181.2.2.2.1 bt181.2.2.2.2.1 bt181.2.2.2.2.2.1 bt181.2.2.2.2.2.2 a1_0 a1_1)))))) else (some bt181.2.2.2.2.2.1)))) = some r := h; clear h; replace H := Option.bind_eq_some_iff.mp H; obtain ⟨⟨t181, t182, t183, t184, t185, t186, t187⟩, A30, H⟩ := H; (try dsimp only at H); have A3 := Aside0.mk A30; clear A30; replace H := Option.bind_eq_some_iff.mp H; obtain ⟨t188, A40, H⟩ := H; (try dsimp only at H); have A4 := Aside0.mk A40; clear A40; by_cases c5 : t188 = true
 ·
  subst c5; rw [if_pos rfl] at H; have HC6 := Aside0.mk H; clear H; go_enter Tryz.func7, Tryz.ntmps7; go_upto_region 4 with (first | ((with_reducible refine gate_dst (N := 2) rfl ?_); refine bx_ 2 #[.int .i64 a0_0, .int .i64 a0_1, .int .i64 a0_2, .int .i64 a0_3, .int .i64 a0_4, .bool a0_5, .bool a0_6] 25 ?_; intro gb179 hg w7 BK179 hb; have GE179 := hz_ hg HB; replace HB := hs HB hb; clear hb hg) | ((with_reducible refine gate_dst (N := 3) rfl ?_); refine bx_ 3 #[.int .i64 a1_0, .int .i64 a1_1] 23 ?_; intro gb180 hg w8 BK180 hb; have GE180 := ge_ w hg; have NB179_180 := nlk hg BK179; have NB180_179 := ngk hg BK179; replace BK179 := kb BK179 hb; replace HB := hb_ w hb; clear hb hg; have hnb9 := NB179_180.out; have hnc9 := NB180_179.out; obtain ⟨hcz10_0, hcz10_1, hcz10_2, hcz10_3, hcz10_4, hcz10_5, hcz10_6⟩ := bc7 BK179.out; obtain ⟨hfz10_0, hfz10_1, hfz10_2, hfz10_3, hfz10_4, hfz10_5, hfz10_6⟩ := bf7 BK179.out) | ((with_reducible refine gate_callee (f := 31) rfl ?_); refine goesL_ (some 6) rfl rfl Tryz.func31 (by kernel_rfl) rfl #[.agg #[.int .i64 a0_0, .int .i64 a0_1, .int .i64 a0_2, .int .i64 a0_3, .int .i64 a0_4, .bool a0_5, .bool a0_6]] rfl (by (try simp only [mp]); first | done | rfl | (simp only [ld]; rfl)) ?_; (with_reducible refine (serinetteref03_Clean.calls k a0_0 a0_1 a0_2 a0_3 a0_4 a0_5 a0_6 t181 t182 t183 t184 t185 t186 t187 _ A3.out).mono ?_); rintro e w11 ⟨rfl, hb⟩; refine ⟨_, rfl, ?_⟩; replace BK179 := kb BK179 hb; replace BK180 := kb BK180 hb; replace HB := hb_ w hb; obtain ⟨hcz12_0, hcz12_1, hcz12_2, hcz12_3, hcz12_4, hcz12_5, hcz12_6⟩ := bc7 BK179.out; obtain ⟨hfz12_0, hfz12_1, hfz12_2, hfz12_3, hfz12_4, hfz12_5, hfz12_6⟩ := bf7 BK179.out; obtain ⟨hcz13_0, hcz13_1⟩ := bc2 BK180.out; obtain ⟨hfz13_0, hfz13_1⟩ := bf2 BK180.out) | ((with_reducible refine gate_callee (f := 28) rfl ?_); refine goesL_ (some 8) rfl rfl Tryz.func28 (by kernel_rfl) rfl #[.agg #[.int .i64 a1_0, .int .i64 a1_1]] rfl (by (try simp only [mp]); first | done | rfl | (simp only [ld]; rfl)) ?_; (with_reducible refine (serinetteref01_Is.calls k a1_0 a1_1 true _ A4.out).mono ?_); rintro e w14 ⟨rfl, hb⟩; refine ⟨_, rfl, ?_⟩; replace BK179 := Aside0.mk (blk_below (g := gb179) (o := .cells #[.int .i64 t181, .int .i64 t182, .int .i64 t183, .int .i64 t184, .int .i64 t185, .bool t186, .bool t187] 25 (0, 0)) (by exact rq BK179.out (by rfl)) hb); replace BK180 := Aside0.mk (blk_below (g := gb180) (o := .cells #[.int .i64 a1_0, .int .i64 a1_1] 23 (0, 0)) (by (iterate 7 refine f1 NB180_179 ?_); refine bk ?_; exact BK180.out) hb); replace HB := hb_ w hb; )); (try simp only [Act.put, List.setIfInBounds_toArray, List.set_cons_zero, List.set_cons_succ])
  go_cut [37] (fun v37 wc => ∃ (kq : Nat) (x37_5 : Bool), v37 = .bool x37_5 ∧ Aside0 (serinetteref03_Has.j0 kq x37_5 t181 t182 t183 t184 t185 t186 t187 a1_0 a1_1 = some r) ∧ Aside0 (kq ≤ k) ∧ Aside0 (wc.heap[gb179]? = some (.cells #[.int .i64 t181, .int .i64 t182, .int .i64 t183, .int .i64 t184, .int .i64 t185, .bool t186, .bool t187] 25 (0, 0))) ∧ Aside0 (wc.heap[gb180]? = some (.cells #[.int .i64 a1_0, .int .i64 a1_1] 23 (0, 0))) ∧ Aside0 (Below w.heap.size w wc))
  case first =>
   have H := HC6.out; clear HC6; by_cases c15 : t187 = true
   ·
    subst c15; rw [if_pos rfl] at H; have H' := Aside0.mk H; clear H; have hnb16 := NB179_180.out; have hnc16 := NB180_179.out; obtain ⟨hcz17_0, hcz17_1, hcz17_2, hcz17_3, hcz17_4, hcz17_5, hcz17_6⟩ := bc7 BK179.out; obtain ⟨hfz17_0, hfz17_1, hfz17_2, hfz17_3, hfz17_4, hfz17_5, hfz17_6⟩ := bf7 BK179.out; go_wp2; go_meet
    case rel => exact ⟨_, (true), (by first | rfl | (simp; done) | (simp [*]; done)), H', ⟨by first | omega | exact Nat.le_refl _⟩, ⟨bk BK179.out⟩, ⟨bk BK180.out⟩, ab2_⟩
   ·
    replace c15 := Bool.eq_false_iff.mpr c15; subst c15; rw [if_neg (show ¬ (false = true) by decide)] at H; replace H := Option.bind_eq_some_iff.mp H; obtain ⟨t189, A180, H⟩ := H; (try dsimp only at H); have A18 := Aside0.mk A180; clear A180; by_cases c19 : t189 = true
    ·
     subst c19; rw [if_pos rfl] at H; replace H := Option.bind_eq_some_iff.mp H; obtain ⟨t190, A200, H⟩ := H; (try dsimp only at H); have A20 := Aside0.mk A200; clear A200; by_cases c21 : t190 < 0
     ·
      rw [if_pos c21] at H; have c21b0 : decide (t190 < 0) = true := decide_eq_true c21; clear c21; (first | rw [c21b0] | (simp only [i64_w, i32_w]; rw [c21b0]) | skip); have H' := Aside0.mk H; clear H; have hnb22 := NB179_180.out; have hnc22 := NB180_179.out; obtain ⟨hcz23_0, hcz23_1, hcz23_2, hcz23_3, hcz23_4, hcz23_5, hcz23_6⟩ := bc7 BK179.out; obtain ⟨hfz23_0, hfz23_1, hfz23_2, hfz23_3, hfz23_4, hfz23_5, hfz23_6⟩ := bf7 BK179.out; go_wp2_with (first | (go_at_call 28; (with_reducible refine (serinetteref01_Is.calls k t181 t182 true _ A18.out).mono ?_); rintro e w24 ⟨rfl, hb⟩; replace BK179 := kb BK179 hb; replace BK180 := kb BK180 hb; replace HB := hb_ w hb; obtain ⟨hcz25_0, hcz25_1⟩ := bc2 BK180.out; obtain ⟨hfz25_0, hfz25_1⟩ := bf2 BK180.out; obtain ⟨hcz26_0, hcz26_1, hcz26_2, hcz26_3, hcz26_4, hcz26_5, hcz26_6⟩ := bc7 BK179.out; obtain ⟨hfz26_0, hfz26_1, hfz26_2, hfz26_3, hfz26_4, hfz26_5, hfz26_6⟩ := bf7 BK179.out) | (go_at_call 29; (with_reducible refine (serinetteref01_Cmp.calls k a1_0 a1_1 t181 t182 t190 _ A20.out).mono ?_); rintro e w27 ⟨rfl, hb⟩; replace BK179 := kb BK179 hb; replace BK180 := kb BK180 hb; replace HB := hb_ w hb; )); go_meet
      case rel => exact ⟨_, (true), (by first | rfl | (simp; done) | (simp [*]; done)), H', ⟨by first | omega | exact Nat.le_refl _⟩, ⟨bk BK179.out⟩, ⟨bk BK180.out⟩, ab2_⟩
     ·
      rw [if_neg c21] at H; have c21b0 : decide (t190 < 0) = false := decide_eq_false c21; clear c21; (first | rw [c21b0] | (simp only [i64_w, i32_w]; rw [c21b0]) | skip); replace H := Option.bind_eq_some_iff.mp H; obtain ⟨t191, A280, H⟩ := H; (try dsimp only at H); have A28 := Aside0.mk A280; clear A280; by_cases c29 : t191 = true
      ·
       subst c29; rw [if_pos rfl] at H; replace H := Option.bind_eq_some_iff.mp H; obtain ⟨t192, A300, H⟩ := H; (try dsimp only at H); have A30 := Aside0.mk A300; clear A300; have H' := Aside0.mk H; clear H; have hnb31 := NB179_180.out; have hnc31 := NB180_179.out; obtain ⟨hcz32_0, hcz32_1, hcz32_2, hcz32_3, hcz32_4, hcz32_5, hcz32_6⟩ := bc7 BK179.out; obtain ⟨hfz32_0, hfz32_1, hfz32_2, hfz32_3, hfz32_4, hfz32_5, hfz32_6⟩ := bf7 BK179.out; go_wp2_with (first | (go_at_call 28; (with_reducible refine (serinetteref01_Is.calls k t181 t182 true _ A18.out).mono ?_); rintro e w33 ⟨rfl, hb⟩; replace BK179 := kb BK179 hb; replace BK180 := kb BK180 hb; replace HB := hb_ w hb; obtain ⟨hcz34_0, hcz34_1⟩ := bc2 BK180.out; obtain ⟨hfz34_0, hfz34_1⟩ := bf2 BK180.out; obtain ⟨hcz35_0, hcz35_1, hcz35_2, hcz35_3, hcz35_4, hcz35_5, hcz35_6⟩ := bc7 BK179.out; obtain ⟨hfz35_0, hfz35_1, hfz35_2, hfz35_3, hfz35_4, hfz35_5, hfz35_6⟩ := bf7 BK179.out) | (go_at_call 29; (with_reducible refine (serinetteref01_Cmp.calls k a1_0 a1_1 t181 t182 t190 _ A20.out).mono ?_); rintro e w36 ⟨rfl, hb⟩; replace BK179 := kb BK179 hb; replace BK180 := kb BK180 hb; replace HB := hb_ w hb; obtain ⟨hcz37_0, hcz37_1, hcz37_2, hcz37_3, hcz37_4, hcz37_5, hcz37_6⟩ := bc7 BK179.out; obtain ⟨hfz37_0, hfz37_1, hfz37_2, hfz37_3, hfz37_4, hfz37_5, hfz37_6⟩ := bf7 BK179.out) | (go_at_call 28; (with_reducible refine (serinetteref01_Is.calls k t183 t184 true _ A28.out).mono ?_); rintro e w38 ⟨rfl, hb⟩; replace BK179 := kb BK179 hb; replace BK180 := kb BK180 hb; replace HB := hb_ w hb; obtain ⟨hcz39_0, hcz39_1⟩ := bc2 BK180.out; obtain ⟨hfz39_0, hfz39_1⟩ := bf2 BK180.out; obtain ⟨hcz40_0, hcz40_1, hcz40_2, hcz40_3, hcz40_4, hcz40_5, hcz40_6⟩ := bc7 BK179.out; obtain ⟨hfz40_0, hfz40_1, hfz40_2, hfz40_3, hfz40_4, hfz40_5, hfz40_6⟩ := bf7 BK179.out) | (go_at_call 29; (with_reducible refine (serinetteref01_Cmp.calls k a1_0 a1_1 t183 t184 t192 _ A30.out).mono ?_); rintro e w41 ⟨rfl, hb⟩; replace BK179 := kb BK179 hb; replace BK180 := kb BK180 hb; replace HB := hb_ w hb; )); go_meet
       case rel => exact ⟨_, (decide (t192 > 0)), (by first | rfl | (simp; done) | (simp [*]; done)), H', ⟨by first | omega | exact Nat.le_refl _⟩, ⟨bk BK179.out⟩, ⟨bk BK180.out⟩, ab2_⟩
      ·
       replace c29 := Bool.eq_false_iff.mpr c29; subst c29; rw [if_neg (show ¬ (false = true) by decide)] at H; have H' := Aside0.mk H; clear H; have hnb42 := NB179_180.out; have hnc42 := NB180_179.out; obtain ⟨hcz43_0, hcz43_1, hcz43_2, hcz43_3, hcz43_4, hcz43_5, hcz43_6⟩ := bc7 BK179.out; obtain ⟨hfz43_0, hfz43_1, hfz43_2, hfz43_3, hfz43_4, hfz43_5, hfz43_6⟩ := bf7 BK179.out; go_wp2_with (first | (go_at_call 28; (with_reducible refine (serinetteref01_Is.calls k t181 t182 true _ A18.out).mono ?_); rintro e w44 ⟨rfl, hb⟩; replace BK179 := kb BK179 hb; replace BK180 := kb BK180 hb; replace HB := hb_ w hb; obtain ⟨hcz45_0, hcz45_1⟩ := bc2 BK180.out; obtain ⟨hfz45_0, hfz45_1⟩ := bf2 BK180.out; obtain ⟨hcz46_0, hcz46_1, hcz46_2, hcz46_3, hcz46_4, hcz46_5, hcz46_6⟩ := bc7 BK179.out; obtain ⟨hfz46_0, hfz46_1, hfz46_2, hfz46_3, hfz46_4, hfz46_5, hfz46_6⟩ := bf7 BK179.out) | (go_at_call 29; (with_reducible refine (serinetteref01_Cmp.calls k a1_0 a1_1 t181 t182 t190 _ A20.out).mono ?_); rintro e w47 ⟨rfl, hb⟩; replace BK179 := kb BK179 hb; replace BK180 := kb BK180 hb; replace HB := hb_ w hb; obtain ⟨hcz48_0, hcz48_1, hcz48_2, hcz48_3, hcz48_4, hcz48_5, hcz48_6⟩ := bc7 BK179.out; obtain ⟨hfz48_0, hfz48_1, hfz48_2, hfz48_3, hfz48_4, hfz48_5, hfz48_6⟩ := bf7 BK179.out) | (go_at_call 28; (with_reducible refine (serinetteref01_Is.calls k t183 t184 false _ A28.out).mono ?_); rintro e w49 ⟨rfl, hb⟩; replace BK179 := kb BK179 hb; replace BK180 := kb BK180 hb; replace HB := hb_ w hb; )); go_meet
       case rel => exact ⟨_, (false), (by first | rfl | (simp; done) | (simp [*]; done)), H', ⟨by first | omega | exact Nat.le_refl _⟩, ⟨bk BK179.out⟩, ⟨bk BK180.out⟩, ab2_⟩
    ·
     replace c19 := Bool.eq_false_iff.mpr c19; subst c19; rw [if_neg (show ¬ (false = true) by decide)] at H; replace H := Option.bind_eq_some_iff.mp H; obtain ⟨t193, A500, H⟩ := H; (try dsimp only at H); have A50 := Aside0.mk A500; clear A500; by_cases c51 : t193 = true
     ·
      subst c51; rw [if_pos rfl] at H; replace H := Option.bind_eq_some_iff.mp H; obtain ⟨t194, A520, H⟩ := H; (try dsimp only at H); have A52 := Aside0.mk A520; clear A520; have H' := Aside0.mk H; clear H; have hnb53 := NB179_180.out; have hnc53 := NB180_179.out; obtain ⟨hcz54_0, hcz54_1, hcz54_2, hcz54_3, hcz54_4, hcz54_5, hcz54_6⟩ := bc7 BK179.out; obtain ⟨hfz54_0, hfz54_1, hfz54_2, hfz54_3, hfz54_4, hfz54_5, hfz54_6⟩ := bf7 BK179.out; go_wp2_with (first | (go_at_call 28; (with_reducible refine (serinetteref01_Is.calls k t181 t182 false _ A18.out).mono ?_); rintro e w55 ⟨rfl, hb⟩; replace BK179 := kb BK179 hb; replace BK180 := kb BK180 hb; replace HB := hb_ w hb; obtain ⟨hcz56_0, hcz56_1, hcz56_2, hcz56_3, hcz56_4, hcz56_5, hcz56_6⟩ := bc7 BK179.out; obtain ⟨hfz56_0, hfz56_1, hfz56_2, hfz56_3, hfz56_4, hfz56_5, hfz56_6⟩ := bf7 BK179.out) | (go_at_call 28; (with_reducible refine (serinetteref01_Is.calls k t183 t184 true _ A50.out).mono ?_); rintro e w57 ⟨rfl, hb⟩; replace BK179 := kb BK179 hb; replace BK180 := kb BK180 hb; replace HB := hb_ w hb; obtain ⟨hcz58_0, hcz58_1⟩ := bc2 BK180.out; obtain ⟨hfz58_0, hfz58_1⟩ := bf2 BK180.out; obtain ⟨hcz59_0, hcz59_1, hcz59_2, hcz59_3, hcz59_4, hcz59_5, hcz59_6⟩ := bc7 BK179.out; obtain ⟨hfz59_0, hfz59_1, hfz59_2, hfz59_3, hfz59_4, hfz59_5, hfz59_6⟩ := bf7 BK179.out) | (go_at_call 29; (with_reducible refine (serinetteref01_Cmp.calls k a1_0 a1_1 t183 t184 t194 _ A52.out).mono ?_); rintro e w60 ⟨rfl, hb⟩; replace BK179 := kb BK179 hb; replace BK180 := kb BK180 hb; replace HB := hb_ w hb; )); go_meet
      case rel => exact ⟨_, (decide (t194 > 0)), (by first | rfl | (simp; done) | (simp [*]; done)), H', ⟨by first | omega | exact Nat.le_refl _⟩, ⟨bk BK179.out⟩, ⟨bk BK180.out⟩, ab2_⟩
     ·
      replace c51 := Bool.eq_false_iff.mpr c51; subst c51; rw [if_neg (show ¬ (false = true) by decide)] at H; have H' := Aside0.mk H; clear H; have hnb61 := NB179_180.out; have hnc61 := NB180_179.out; obtain ⟨hcz62_0, hcz62_1, hcz62_2, hcz62_3, hcz62_4, hcz62_5, hcz62_6⟩ := bc7 BK179.out; obtain ⟨hfz62_0, hfz62_1, hfz62_2, hfz62_3, hfz62_4, hfz62_5, hfz62_6⟩ := bf7 BK179.out; go_wp2_with (first | (go_at_call 28; (with_reducible refine (serinetteref01_Is.calls k t181 t182 false _ A18.out).mono ?_); rintro e w63 ⟨rfl, hb⟩; replace BK179 := kb BK179 hb; replace BK180 := kb BK180 hb; replace HB := hb_ w hb; obtain ⟨hcz64_0, hcz64_1, hcz64_2, hcz64_3, hcz64_4, hcz64_5, hcz64_6⟩ := bc7 BK179.out; obtain ⟨hfz64_0, hfz64_1, hfz64_2, hfz64_3, hfz64_4, hfz64_5, hfz64_6⟩ := bf7 BK179.out) | (go_at_call 28; (with_reducible refine (serinetteref01_Is.calls k t183 t184 false _ A50.out).mono ?_); rintro e w65 ⟨rfl, hb⟩; replace BK179 := kb BK179 hb; replace BK180 := kb BK180 hb; replace HB := hb_ w hb; )); go_meet
      case rel => exact ⟨_, (false), (by first | rfl | (simp; done) | (simp [*]; done)), H', ⟨by first | omega | exact Nat.le_refl _⟩, ⟨bk BK179.out⟩, ⟨bk BK180.out⟩, ab2_⟩
  case rest =>
   clear HC6; (try clear c5); (try clear hcz10_0 hcz10_1 hcz10_2 hcz10_3 hcz10_4 hcz10_5 hcz10_6); (try clear hcz12_0 hcz12_1 hcz12_2 hcz12_3 hcz12_4 hcz12_5 hcz12_6); (try clear hcz13_0 hcz13_1); (try clear hfz10_0 hfz10_1 hfz10_2 hfz10_3 hfz10_4 hfz10_5 hfz10_6); (try clear hfz12_0 hfz12_1 hfz12_2 hfz12_3 hfz12_4 hfz12_5 hfz12_6); (try clear hfz13_0 hfz13_1); obtain ⟨kq, x37_5, rfl, HA, HJ5, BK179, BK180, HB⟩ := hcut; cases kq with
   | zero => exact absurd HA.out (by simp [serinetteref03_Has.j0])
   | succ kj5 =>
    have H := HA.out; clear HA; simp only [serinetteref03_Has.j0] at H; by_cases c66 : x37_5 = true
    · subst c66; rw [if_pos rfl] at H; obtain rfl := Option.some.inj H; go_wp2; go_ret; exact en_
    ·
     replace c66 := Bool.eq_false_iff.mpr c66; subst c66; rw [if_neg (show ¬ (false = true) by decide)] at H; by_cases c67 : t185 = 0
     · rw [if_pos c67] at H; have c67b0 : (t185 == 0) = true := beq_iff_eq.mpr c67; have c67b1 : (t185 != 0) = false := bne_eq_false_iff_eq.mpr c67; clear c67; obtain rfl := Option.some.inj H; have hnb68 := NB179_180.out; have hnc68 := NB180_179.out; obtain ⟨hcz69_0, hcz69_1, hcz69_2, hcz69_3, hcz69_4, hcz69_5, hcz69_6⟩ := bc7 BK179.out; obtain ⟨hfz69_0, hfz69_1, hfz69_2, hfz69_3, hfz69_4, hfz69_5, hfz69_6⟩ := bf7 BK179.out; go_wp2; go_ret; exact en_
     ·
      rw [if_neg c67] at H; have c67b0 : (t185 == 0) = false := beq_eq_false_iff_ne.mpr c67; have c67b1 : (t185 != 0) = true := bne_iff_ne.mpr c67; by_cases c70 : a1_1 = 0
      · rw [if_pos c70] at H; exact absurd H (by simp)
      · rw [if_neg c70] at H; have c70b0 : (a1_1 == 0) = false := beq_eq_false_iff_ne.mpr c70; have c70b1 : (a1_1 != 0) = true := bne_iff_ne.mpr c70; obtain rfl := Option.some.inj H; have hnb71 := NB179_180.out; have hnc71 := NB180_179.out; obtain ⟨hcz72_0, hcz72_1, hcz72_2, hcz72_3, hcz72_4, hcz72_5, hcz72_6⟩ := bc7 BK179.out; obtain ⟨hfz72_0, hfz72_1, hfz72_2, hfz72_3, hfz72_4, hfz72_5, hfz72_6⟩ := bf7 BK179.out; obtain ⟨hcz73_0, hcz73_1⟩ := bc2 BK180.out; obtain ⟨hfz73_0, hfz73_1⟩ := bf2 BK180.out; go_wp2; go_ret; exact en_
 · replace c5 := Bool.eq_false_iff.mpr c5; subst c5; rw [if_neg (show ¬ (false = true) by decide)] at H; obtain rfl := Option.some.inj H; go_enter Tryz.func7, Tryz.ntmps7; go_wp2_with (first | ((with_reducible refine gate_dst (N := 2) rfl ?_); refine bx_ 2 #[.int .i64 a0_0, .int .i64 a0_1, .int .i64 a0_2, .int .i64 a0_3, .int .i64 a0_4, .bool a0_5, .bool a0_6] 25 ?_; intro gb179 hg w74 BK179 hb; have GE179 := hz_ hg HB; replace HB := hs HB hb; clear hb hg) | ((with_reducible refine gate_dst (N := 3) rfl ?_); refine bx_ 3 #[.int .i64 a1_0, .int .i64 a1_1] 23 ?_; intro gb180 hg w75 BK180 hb; have GE180 := ge_ w hg; have NB179_180 := nlk hg BK179; have NB180_179 := ngk hg BK179; replace BK179 := kb BK179 hb; replace HB := hb_ w hb; clear hb hg; have hnb76 := NB179_180.out; have hnc76 := NB180_179.out; obtain ⟨hcz77_0, hcz77_1, hcz77_2, hcz77_3, hcz77_4, hcz77_5, hcz77_6⟩ := bc7 BK179.out; obtain ⟨hfz77_0, hfz77_1, hfz77_2, hfz77_3, hfz77_4, hfz77_5, hfz77_6⟩ := bf7 BK179.out) | ((with_reducible refine gate_callee (f := 31) rfl ?_); refine goesL_ (some 6) rfl rfl Tryz.func31 (by kernel_rfl) rfl #[.agg #[.int .i64 a0_0, .int .i64 a0_1, .int .i64 a0_2, .int .i64 a0_3, .int .i64 a0_4, .bool a0_5, .bool a0_6]] rfl (by (try simp only [mp]); first | done | rfl | (simp only [ld]; rfl)) ?_; (with_reducible refine (serinetteref03_Clean.calls k a0_0 a0_1 a0_2 a0_3 a0_4 a0_5 a0_6 t181 t182 t183 t184 t185 t186 t187 _ A3.out).mono ?_); rintro e w78 ⟨rfl, hb⟩; refine ⟨_, rfl, ?_⟩; replace BK179 := kb BK179 hb; replace BK180 := kb BK180 hb; replace HB := hb_ w hb; obtain ⟨hcz79_0, hcz79_1, hcz79_2, hcz79_3, hcz79_4, hcz79_5, hcz79_6⟩ := bc7 BK179.out; obtain ⟨hfz79_0, hfz79_1, hfz79_2, hfz79_3, hfz79_4, hfz79_5, hfz79_6⟩ := bf7 BK179.out; obtain ⟨hcz80_0, hcz80_1⟩ := bc2 BK180.out; obtain ⟨hfz80_0, hfz80_1⟩ := bf2 BK180.out) | ((with_reducible refine gate_callee (f := 28) rfl ?_); refine goesL_ (some 8) rfl rfl Tryz.func28 (by kernel_rfl) rfl #[.agg #[.int .i64 a1_0, .int .i64 a1_1]] rfl (by (try simp only [mp]); first | done | rfl | (simp only [ld]; rfl)) ?_; (with_reducible refine (serinetteref01_Is.calls k a1_0 a1_1 false _ A4.out).mono ?_); rintro e w81 ⟨rfl, hb⟩; refine ⟨_, rfl, ?_⟩; replace BK179 := Aside0.mk (blk_below (g := gb179) (o := .cells #[.int .i64 t181, .int .i64 t182, .int .i64 t183, .int .i64 t184, .int .i64 t185, .bool t186, .bool t187] 25 (0, 0)) (by exact rq BK179.out (by rfl)) hb); replace BK180 := Aside0.mk (blk_below (g := gb180) (o := .cells #[.int .i64 a1_0, .int .i64 a1_1] 23 (0, 0)) (by (iterate 7 refine f1 NB180_179 ?_); refine bk ?_; exact BK180.out) hb); replace HB := hb_ w hb; obtain ⟨hcz82_0, hcz82_1, hcz82_2, hcz82_3, hcz82_4, hcz82_5, hcz82_6⟩ := bc7 BK179.out; obtain ⟨hfz82_0, hfz82_1, hfz82_2, hfz82_3, hfz82_4, hfz82_5, hfz82_6⟩ := bf7 BK179.out)); go_ret; exact en_
end Go.Proofs.YtlibjgmnookakaaGreatDoor.SSpanSays
