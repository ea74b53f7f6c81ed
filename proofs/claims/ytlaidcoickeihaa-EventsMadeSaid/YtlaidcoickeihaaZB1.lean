/- Parts of the proof of EventsMade, joined by program out of this session's own texts. -/
import Derived.Test.YtlaidcoickeihaaZB0
set_option linter.unusedVariables false
set_option linter.unusedSimpArgs false
namespace Go.Proofs.Ytlaidcoickeihaa.Nb
open Go.RowKit Go.Proofs.Ytlaidcoickeihaa.Wd.PrintWords Go.Proofs.Ytlaidcoickeihaa.Wd.PrintLast Go.Proofs.Ytlaidcoickeihaa.Wd.PrintMore Go.Proofs.Ytlaidcoickeihaa.Big
set_option synthInstance.maxSize 2000
set_option synthInstance.maxHeartbeats 400000
def BF (w : World) (ok : Nat → Prop) (v : Value) (q : Rat) : Prop :=
  ∃ (A B : Option Addr) (c d : Nat) (dd : Int), v = .agg #[.bool (decide (q.num < 0)), .slice A (dig q.num.natAbs).length c, .bool (decide (dd < 0)), .slice B (dig dd.natAbs).length d] ∧ BI w ok (arg q.num A c) q.num ∧ BI w ok (arg dd B d) dd ∧ (dd = q.den ∨ (q.num = 0 ∧ dd = 0))
theorem BF.below {w w' : World} {ok : Nat → Prop} {v : Value} {q : Rat} (h : BF w ok v q) (hb : Below w.heap.size w w') : BF w' ok v q := by
  obtain ⟨A, B, c, d, dd, e, h1, h2, h3⟩ := h
  exact ⟨A, B, c, d, dd, e, h1.below hb, h2.below hb, h3⟩
theorem BF.mono {w : World} {ok ok' : Nat → Prop} {v : Value} {q : Rat} (h : BF w ok v q) (hk : ∀ k, ok k → ok' k) : BF w ok' v q := by
  obtain ⟨A, B, c, d, dd, e, h1, h2, h3⟩ := h
  exact ⟨A, B, c, d, dd, e, h1.mono hk, h2.mono hk, h3⟩
theorem BI.set' {w : World} {ok : Nat → Prop} {v : Value} {z : Int} (h : BI w ok v z) {p : Addr} (hp : ¬ ok p.block) (u : Value) : BI (w.setCell p u) ok v z := by
  obtain ⟨A, c, e, hc, hw, ho⟩ := h
  exact ⟨A, c, e, hc, wd_set hw (fun ad ha hl e => hp (e ▸ ho ad ha hl)) u, ho⟩
theorem BF.set {w : World} {ok : Nat → Prop} {v : Value} {q : Rat} (h : BF w ok v q) {p : Addr} (hp : ¬ ok p.block) (u : Value) : BF (w.setCell p u) ok v q := by
  obtain ⟨A, B, c, d, dd, e, h1, h2, h3⟩ := h
  exact ⟨A, B, c, d, dd, e, h1.set' hp u, h2.set' hp u, h3⟩
theorem BI.zero' (w : World) (ok : Nat → Prop) : BI w ok (arg 0 none 0) 0 := by
  have h := BI.zero w ok
  have e : arg 0 none 0 = .agg #[.bool false, .slice none 0 0] := by rw [arg, show (0 : Int).natAbs = 0 from rfl, dig_zero]; rfl
  rw [e]; exact h
theorem BF.zero (w : World) (ok : Nat → Prop) : BF w ok (.agg #[.bool false, .slice none 0 0, .bool false, .slice none 0 0]) 0 := by
  refine ⟨none, none, 0, 0, 0, ?_, BI.zero' _ _, BI.zero' _ _, .inr ⟨rfl, rfl⟩⟩
  rw [show (0 : Rat).num = 0 from rfl, show (0 : Int).natAbs = 0 from rfl, dig_zero]; rfl
theorem ratio_num {a b : Int} (hb : b ≠ 0) : (Rat.divInt a b).num = a.tdiv (b.sign * (Int.gcd a b : Nat)) := by
  have hg : 0 < Int.gcd a b := Int.gcd_pos_of_ne_zero_right _ hb
  rw [Rat.num_divInt, Int.gcd_comm b a]
  obtain ⟨k, hk⟩ : ((Int.gcd a b : Nat) : Int) ∣ a := Int.gcd_dvd_left ..
  generalize Int.gcd a b = g at *
  subst hk
  rcases Int.lt_or_gt_of_ne hb with c | c
  · rw [Int.sign_eq_neg_one_of_neg c, show (-1 : Int) * ((g : Int) * k) = (-k) * g by grind, Int.mul_ediv_cancel _ (by omega), show (-1 : Int) * (g : Int) = -(g : Int) by omega, Int.tdiv_neg, Int.mul_tdiv_cancel_left _ (by omega)]
  · rw [Int.sign_eq_one_of_pos c, Int.one_mul, Int.one_mul, Int.mul_ediv_cancel_left _ (by omega), Int.mul_tdiv_cancel_left _ (by omega)]
theorem ratio_den {a b : Int} (hb : b ≠ 0) : ((Rat.divInt a b).den : Int) = b.tdiv (b.sign * (Int.gcd a b : Nat)) := by
  have hg : 0 < Int.gcd a b := Int.gcd_pos_of_ne_zero_right _ hb
  rw [Rat.den_divInt, if_neg hb, Int.gcd_comm b a]
  generalize Int.gcd a b = g at *
  rw [show ((b.natAbs / g : Nat) : Int) = ((b.natAbs : Int)).tdiv g from Int.ofNat_tdiv _ _]
  rcases Int.lt_or_gt_of_ne hb with c | c
  · rw [Int.sign_eq_neg_one_of_neg c, show (-1 : Int) * (g : Int) = -(g : Int) by omega, show (b.natAbs : Int) = -b by omega, Int.tdiv_neg, Int.neg_tdiv]
  · rw [Int.sign_eq_one_of_pos c, Int.one_mul, show (b.natAbs : Int) = b by omega]
theorem BI.low {w : World} {ok : Nat → Prop} {v : Value} {z : Int} (h : BI w ok v z) : BI w (fun k => ok k ∧ k < w.heap.size) v z := by
  obtain ⟨A, c, e, hc, hw, ho⟩ := h
  refine ⟨A, c, e, hc, hw, fun ad ha hp => ⟨ho ad ha hp, ?_⟩⟩
  obtain ⟨ad', e, hc⟩ := wd_at hw 0 hp
  rw [ha] at e
  cases e
  exact World.block_lt_of_cell? _ _ hc
theorem quo_bi (w : World) (P Q : Nat → Prop) (u v : Value) (x y : Int) (h0 : BI w P u x) (h1 : BI w Q v y) (hm : (dig x.natAbs).length ≤ 35184372088832) (hy : y ≠ 0) :
    Calls Try.prog 72 #[u, v] w (QuoPost w P (x.tdiv y) (x.tmod y)) := by
  obtain ⟨A, c, rfl, hc, hw, ho⟩ := h0
  obtain ⟨B, d, rfl, hd, hv, hp⟩ := h1
  exact quo_any w P x y A B c d hw hv hc ho hm hy
theorem add_bi (w : World) (P Q : Nat → Prop) (u v : Value) (x y : Int) (h0 : BI w P u x) (h1 : BI w Q v y) (hm : (dig x.natAbs).length ≤ 35184372088832) (hn : (dig y.natAbs).length ≤ 35184372088832) :
    Calls Try.prog 57 #[u, v] w (NewI w (fun k => w.heap.size ≤ k) (x + y)) := by
  obtain ⟨A, c, rfl, hc, hw, ho⟩ := h0
  obtain ⟨B, d, rfl, hd, hv, hp⟩ := h1
  exact add_any w x y A B c d hw hv hm hn
theorem mul_bi (w : World) (P Q : Nat → Prop) (u v : Value) (x y : Int) (h0 : BI w P u x) (h1 : BI w Q v y) (hm : (dig x.natAbs).length ≤ 35184372088832) (hn : (dig y.natAbs).length ≤ 35184372088832) :
    Calls Try.prog 56 #[u, v] w (NewI w (fun k => w.heap.size ≤ k) (x * y)) := by
  obtain ⟨A, c, rfl, hc, hw, ho⟩ := h0
  obtain ⟨B, d, rfl, hd, hv, hp⟩ := h1
  exact mul_any w x y A B c d hw hv hm hn
theorem sign_is (w : World) (P : Nat → Prop) (v : Value) (z s : Int) (h : BI w P v z) (hs : z.sign = s) :
    Calls Try.prog 69 #[v] w fun e w' => e = .returned (.int .i64 s) ∧ Below w.heap.size w w' := hs ▸ sign_any w P v z h
theorem one_box (w : World) (a0 a1 : Value) (T : TypeId) : ∃ W g, W = w.alloc (.cells #[a0, a1] T) ∧ g = w.heap.size ∧ W.cell? ⟨g, 0, none⟩ = some a0 ∧ W.cell? ⟨g, 1, none⟩ = some a1 ∧ W.frozen? ⟨g, 0, none⟩ = false ∧ W.frozen? ⟨g, 1, none⟩ = false ∧ Below w.heap.size w W :=
  ⟨_, _, rfl, rfl, c_new rfl rfl, c_new rfl rfl, f_new rfl, f_new rfl, below_alloc (Below.refl _ _) _⟩
theorem two_box (w : World) (a0 a1 b0 b1 : Value) (T : TypeId) : ∃ W g h, W = (w.alloc (.cells #[a0, a1] T)).alloc (.cells #[b0, b1] T) ∧ g = w.heap.size ∧ h = w.heap.size + 1 ∧ W.cell? ⟨g, 0, none⟩ = some a0 ∧ W.cell? ⟨g, 1, none⟩ = some a1 ∧ Below w.heap.size w W :=
  ⟨_, _, _, rfl, rfl, rfl, c_low' (c_new rfl rfl), c_low' (c_new rfl rfl), below_alloc (below_alloc (Below.refl _ _) _) _⟩
theorem set_box (w : World) (g : Nat) (a0 a1 b0 b1 : Value) (h0 : w.cell? ⟨g, 0, none⟩ = some a0) (h1 : w.cell? ⟨g, 1, none⟩ = some a1) : ∃ W, W = (w.setCell ⟨g, 0, none⟩ b0).setCell ⟨g, 1, none⟩ b1 ∧ W.cell? ⟨g, 0, none⟩ = some b0 ∧ W.cell? ⟨g, 1, none⟩ = some b1 ∧ (∀ a, W.frozen? a = w.frozen? a) ∧ Below g w W ∧ (∀ p v, p.block < g → w.cell? p = some v → W.cell? p = some v) ∧ ∀ ok v z, BI w ok v z → ¬ ok g → BI W ok v z := by
  refine ⟨_, rfl, kset1 (by simp) (csame h0), csame (kset1 (by simp) h1), fun a => by simp only [World.frozen?_setCell], ((Below.refl g w).setCell (Nat.le_refl g) _).setCell (Nat.le_refl g) _, fun p v hp hv => kset (by simp only []; omega) (kset (by simp only []; omega) hv), fun ok v z h hk => (h.set' (p := ⟨g, 0, none⟩) hk _).set' (p := ⟨g, 1, none⟩) hk _⟩
set_option maxHeartbeats 4000000 in
set_option maxRecDepth 100000 in
theorem ratio_pos (w : World) (P : Nat → Prop) (x y : Int) (A D : Option Addr) (c d : Nat) (h0 : BI w P (arg x A c) x) (h1 : BI w P (arg y D d) y) (hm : (dig x.natAbs).length ≤ 35184372088832) (hn : (dig y.natAbs).length ≤ 35184372088832) (hy : y ≠ 0) (hx : x ≠ 0) :
    Calls Try.prog 55 #[arg x A c, arg y D d] w fun e w' => ∃ v, e = .returned v ∧ BF w' (fun k => w.heap.size ≤ k) v (Rat.divInt x y) ∧ Below w.heap.size w w' := by
  have X0 := Aside0.mk h0.low
  have X1 := Aside0.mk h1.low
  have HM := Aside0.mk hm
  have HN := Aside0.mk hn
  have HX := Aside0.mk hx
  have HY := Aside0.mk hy
  obtain ⟨sx, hx1⟩ : ∃ s, x.sign = s := ⟨_, rfl⟩
  obtain ⟨sy, hy1⟩ : ∃ s, y.sign = s := ⟨_, rfl⟩
  have hsx : (sx == 0) = false := by rw [beq_eq_false_iff_ne, ← hx1, Ne, Int.sign_eq_zero_iff_zero]; exact hx
  have SX := Aside0.mk hx1
  have SY := Aside0.mk hy1
  clear h0 h1 hm hn hx hy hx1 hy1
  by_cases hs : y < 0
  · have hsy : decide (sy < 0) = true := by rw [decide_eq_true_eq, ← SY.out, Int.sign_eq_neg_one_of_neg hs]; decide
    have HYS := Aside0.mk hs
    clear hs
    go_enter Try.func55, Try.ntmps55
    go_upto_region 4 with (first | (go_at_call 69; (with_reducible refine (sign_is _ _ _ x sx (X0.out.below ?hb1) SX.out).mono ?_); (case hb1 => first | exact Kn.out | with_reducible exact Aside0.out ‹_›); rintro e w1 ⟨rfl, hb⟩; have qB0 := kn_b (w0 := w) hb; have qC0 : Kn (CL _ [⟨w.heap.size, 0, none⟩, ⟨w.heap.size, 1, none⟩, ⟨w.heap.size + 1, 0, none⟩, ⟨w.heap.size + 1, 1, none⟩, ⟨w.heap.size + 1 + 1, 0, none⟩, ⟨w.heap.size + 1 + 1, 1, none⟩, ⟨w.heap.size + 1 + 1, 2, none⟩, ⟨w.heap.size + 1 + 1, 3, none⟩] [.bool (decide (x < 0)), .slice A (dig x.natAbs).length c, .bool (decide (y < 0)), .slice D (dig y.natAbs).length d, .bool false, .slice none 0 0, .bool false, .slice none 0 0]) := kn_c hb; obtain ⟨q0_0, q0_1, q0_2, q0_3, q0_4, q0_5, q0_6, q0_7, -⟩ := qC0.out; have qF0 : Kn (FZ _ [⟨w.heap.size + 1 + 1, 0, none⟩, ⟨w.heap.size + 1 + 1, 1, none⟩, ⟨w.heap.size + 1 + 1, 2, none⟩, ⟨w.heap.size + 1 + 1, 3, none⟩]) := kn_f hb; obtain ⟨⟨-, f0_0⟩, ⟨-, f0_1⟩, ⟨-, f0_2⟩, ⟨-, f0_3⟩, -⟩ := qF0.out; clear hb) | (go_at_call 70; (with_reducible refine (gcd_any _ _ _ _ x y (X0.out.below ?hb2) (X1.out.below ?hb2) HM.out HN.out).mono ?_); (case hb2 => first | exact Kn.out | with_reducible exact Aside0.out ‹_›); rintro e w2 ⟨v, rfl, hv, hb⟩; obtain ⟨z, hz⟩ : ∃ z : Int, z = ((Int.gcd x y : Nat) : Int) := ⟨_, rfl⟩; rw [← hz] at hv; have HZ := Aside0.mk hz; have XG0 := Aside0.mk hv.low; obtain ⟨G, gc, rfl, -⟩ := hv; have W12 := Aside0.mk hb; clear hz; have qB1 := kn_b (w0 := w) hb; have qC1 : Kn (CL _ [⟨w.heap.size, 0, none⟩, ⟨w.heap.size, 1, none⟩, ⟨w.heap.size + 1, 0, none⟩, ⟨w.heap.size + 1, 1, none⟩, ⟨w.heap.size + 1 + 1, 0, none⟩, ⟨w.heap.size + 1 + 1, 1, none⟩, ⟨w.heap.size + 1 + 1, 2, none⟩, ⟨w.heap.size + 1 + 1, 3, none⟩] [.bool (decide (x < 0)), .slice A (dig x.natAbs).length c, .bool (decide (y < 0)), .slice D (dig y.natAbs).length d, .bool false, .slice none 0 0, .bool false, .slice none 0 0]) := kn_c hb; obtain ⟨q1_0, q1_1, q1_2, q1_3, q1_4, q1_5, q1_6, q1_7, -⟩ := qC1.out; have qF1 : Kn (FZ _ [⟨w.heap.size + 1 + 1, 0, none⟩, ⟨w.heap.size + 1 + 1, 1, none⟩, ⟨w.heap.size + 1 + 1, 2, none⟩, ⟨w.heap.size + 1 + 1, 3, none⟩]) := kn_f hb; obtain ⟨⟨-, f1_0⟩, ⟨-, f1_1⟩, ⟨-, f1_2⟩, ⟨-, f1_3⟩, -⟩ := qF1.out; clear hb))
    obtain ⟨w3, g, hw3, hg, x2_0, x2_1, fx2_0, fx2_1, hb3⟩ := one_box w2 (.bool (decide (z < 0))) (.slice G (dig z.natAbs).length gc) 85
    rw [← hw3, ← hg]
    have W23 := Aside0.mk hb3
    have qB2 := Kn.mk (below_step qB1.out hb3); have f2_0 := kf hb3 q1_4 f1_0; have f2_1 := kf hb3 q1_5 f1_1; have f2_2 := kf hb3 q1_6 f1_2; have f2_3 := kf hb3 q1_7 f1_3; have q2_0 := kc hb3 q1_0; have q2_1 := kc hb3 q1_1; have q2_2 := kc hb3 q1_2; have q2_3 := kc hb3 q1_3; have q2_4 := kc hb3 q1_4; have q2_5 := kc hb3 q1_5; have q2_6 := kc hb3 q1_6; have q2_7 := kc hb3 q1_7; have qC2 : Kn (CL _ [⟨w.heap.size, 0, none⟩, ⟨w.heap.size, 1, none⟩, ⟨w.heap.size + 1, 0, none⟩, ⟨w.heap.size + 1, 1, none⟩, ⟨w.heap.size + 1 + 1, 0, none⟩, ⟨w.heap.size + 1 + 1, 1, none⟩, ⟨w.heap.size + 1 + 1, 2, none⟩, ⟨w.heap.size + 1 + 1, 3, none⟩] [.bool (decide (x < 0)), .slice A (dig x.natAbs).length c, .bool (decide (y < 0)), .slice D (dig y.natAbs).length d, .bool false, .slice none 0 0, .bool false, .slice none 0 0]) := ⟨cl_c q2_0 (cl_c q2_1 (cl_c q2_2 (cl_c q2_3 (cl_c q2_4 (cl_c q2_5 (cl_c q2_6 (cl_c q2_7 (cl_n _))))))))⟩; have qF2 : Kn (FZ _ [⟨w.heap.size + 1 + 1, 0, none⟩, ⟨w.heap.size + 1 + 1, 1, none⟩, ⟨w.heap.size + 1 + 1, 2, none⟩, ⟨w.heap.size + 1 + 1, 3, none⟩]) := ⟨fz_c (World.block_lt_of_cell? _ _ q2_4) f2_0 (fz_c (World.block_lt_of_cell? _ _ q2_5) f2_1 (fz_c (World.block_lt_of_cell? _ _ q2_6) f2_2 (fz_c (World.block_lt_of_cell? _ _ q2_7) f2_3 (fz_n _))))⟩
    have HG := Aside0.mk hg
    have XG := Aside0.mk (XG0.out.below hb3)
    clear hw3 hg hb3
    have L2 : w.heap.size + 1 + 1 < g := by rw [HG.out]; exact World.block_lt_of_cell? _ _ q1_7
    have L1 : w.heap.size + 1 < g := by omega
    have L0 : w.heap.size < g := by omega
    have M0 := Aside0.mk L0
    have M1 := Aside0.mk L1
    have M2 := Aside0.mk L2
    clear L0 L1 L2
    go_upto_region 6 with (first | (go_at_call 69; (with_reducible refine (sign_is _ _ _ y sy (X1.out.below ?hb3) SY.out).mono ?_); (case hb3 => first | exact Kn.out | with_reducible exact Aside0.out ‹_›); rintro e w4 ⟨rfl, hb⟩; have XG4 := Aside0.mk (XG.out.below hb); have qB3 := kn_b (w0 := w) hb; have qC3 : Kn (CL _ [⟨w.heap.size, 0, none⟩, ⟨w.heap.size, 1, none⟩, ⟨w.heap.size + 1, 0, none⟩, ⟨w.heap.size + 1, 1, none⟩, ⟨w.heap.size + 1 + 1, 0, none⟩, ⟨w.heap.size + 1 + 1, 1, none⟩, ⟨w.heap.size + 1 + 1, 2, none⟩, ⟨w.heap.size + 1 + 1, 3, none⟩] [.bool (decide (x < 0)), .slice A (dig x.natAbs).length c, .bool (decide (y < 0)), .slice D (dig y.natAbs).length d, .bool false, .slice none 0 0, .bool false, .slice none 0 0]) := kn_c hb; obtain ⟨q3_0, q3_1, q3_2, q3_3, q3_4, q3_5, q3_6, q3_7, -⟩ := qC3.out; have qF3 : Kn (FZ _ [⟨w.heap.size + 1 + 1, 0, none⟩, ⟨w.heap.size + 1 + 1, 1, none⟩, ⟨w.heap.size + 1 + 1, 2, none⟩, ⟨w.heap.size + 1 + 1, 3, none⟩]) := kn_f hb; obtain ⟨⟨-, f3_0⟩, ⟨-, f3_1⟩, ⟨-, f3_2⟩, ⟨-, f3_3⟩, -⟩ := qF3.out; have fx3_0 := kf (p := ⟨g, 0, none⟩) (v := .bool (decide (z < 0))) hb (by first | with_reducible assumption | (with_reducible refine c_low' ?_; with_reducible assumption) | (with_reducible refine c_drew ?_; with_reducible assumption) | (with_reducible refine c_drew (c_low' ?_); with_reducible assumption) | (with_reducible refine c_low' (c_low' (c_low' (?_))); with_reducible assumption) | (with_reducible refine c_drew (c_low' (c_low' (c_low' (?_)))); with_reducible assumption)) (by first | with_reducible assumption | (with_reducible refine f_new ?_; simp; done) | (with_reducible refine f_drew (f_new ?_); simp; done) | (with_reducible refine f_low ?_ (f_new ?_) <;> (simp; done)) | (with_reducible refine f_drew (f_low ?_ (f_new ?_)) <;> (simp; done)) | (with_reducible refine f_drew ?_; with_reducible assumption) | (with_reducible refine f_low (Aside0.out ?_) ?_ <;> with_reducible assumption) | (with_reducible refine f_drew (f_low (Aside0.out ?_) ?_) <;> with_reducible assumption)); have fx3_1 := kf (p := ⟨g, 1, none⟩) (v := .slice G (dig z.natAbs).length gc) hb (by first | with_reducible assumption | (with_reducible refine c_low' ?_; with_reducible assumption) | (with_reducible refine c_drew ?_; with_reducible assumption) | (with_reducible refine c_drew (c_low' ?_); with_reducible assumption) | (with_reducible refine c_low' (c_low' (c_low' (?_))); with_reducible assumption) | (with_reducible refine c_drew (c_low' (c_low' (c_low' (?_)))); with_reducible assumption)) (by first | with_reducible assumption | (with_reducible refine f_new ?_; simp; done) | (with_reducible refine f_drew (f_new ?_); simp; done) | (with_reducible refine f_low ?_ (f_new ?_) <;> (simp; done)) | (with_reducible refine f_drew (f_low ?_ (f_new ?_)) <;> (simp; done)) | (with_reducible refine f_drew ?_; with_reducible assumption) | (with_reducible refine f_low (Aside0.out ?_) ?_ <;> with_reducible assumption) | (with_reducible refine f_drew (f_low (Aside0.out ?_) ?_) <;> with_reducible assumption)); have x3_0 := kc (p := ⟨g, 0, none⟩) (v := .bool (decide (z < 0))) hb (by first | with_reducible assumption | (with_reducible refine c_low' ?_; with_reducible assumption) | (with_reducible refine c_drew ?_; with_reducible assumption) | (with_reducible refine c_drew (c_low' ?_); with_reducible assumption) | (with_reducible refine c_low' (c_low' (c_low' (?_))); with_reducible assumption) | (with_reducible refine c_drew (c_low' (c_low' (c_low' (?_)))); with_reducible assumption)); have x3_1 := kc (p := ⟨g, 1, none⟩) (v := .slice G (dig z.natAbs).length gc) hb (by first | with_reducible assumption | (with_reducible refine c_low' ?_; with_reducible assumption) | (with_reducible refine c_drew ?_; with_reducible assumption) | (with_reducible refine c_drew (c_low' ?_); with_reducible assumption) | (with_reducible refine c_low' (c_low' (c_low' (?_))); with_reducible assumption) | (with_reducible refine c_drew (c_low' (c_low' (c_low' (?_)))); with_reducible assumption)); clear hb) | (go_at_call 71; (with_reducible refine (neg_any _ _ _ z XG4.out).mono ?_); rintro e w5 ⟨v, rfl, hv, hb⟩; obtain ⟨z2, hz⟩ : ∃ z2 : Int, z2 = -z := ⟨_, rfl⟩; rw [← hz] at hv; have HZ2 := Aside0.mk hz; have XG5 := Aside0.mk hv; obtain ⟨G2, gc2, rfl, -⟩ := hv; clear hz; have qB4 := kn_b (w0 := w) hb; have qC4 : Kn (CL _ [⟨w.heap.size, 0, none⟩, ⟨w.heap.size, 1, none⟩, ⟨w.heap.size + 1, 0, none⟩, ⟨w.heap.size + 1, 1, none⟩, ⟨w.heap.size + 1 + 1, 0, none⟩, ⟨w.heap.size + 1 + 1, 1, none⟩, ⟨w.heap.size + 1 + 1, 2, none⟩, ⟨w.heap.size + 1 + 1, 3, none⟩] [.bool (decide (x < 0)), .slice A (dig x.natAbs).length c, .bool (decide (y < 0)), .slice D (dig y.natAbs).length d, .bool false, .slice none 0 0, .bool false, .slice none 0 0]) := kn_c hb; obtain ⟨q4_0, q4_1, q4_2, q4_3, q4_4, q4_5, q4_6, q4_7, -⟩ := qC4.out; have qF4 : Kn (FZ _ [⟨w.heap.size + 1 + 1, 0, none⟩, ⟨w.heap.size + 1 + 1, 1, none⟩, ⟨w.heap.size + 1 + 1, 2, none⟩, ⟨w.heap.size + 1 + 1, 3, none⟩]) := kn_f hb; obtain ⟨⟨-, f4_0⟩, ⟨-, f4_1⟩, ⟨-, f4_2⟩, ⟨-, f4_3⟩, -⟩ := qF4.out; have fx4_0 := kf (p := ⟨g, 0, none⟩) (v := .bool (decide (z < 0))) hb (by first | with_reducible assumption | (with_reducible refine c_low' ?_; with_reducible assumption) | (with_reducible refine c_drew ?_; with_reducible assumption) | (with_reducible refine c_drew (c_low' ?_); with_reducible assumption) | (with_reducible refine c_low' (c_low' (c_low' (?_))); with_reducible assumption) | (with_reducible refine c_drew (c_low' (c_low' (c_low' (?_)))); with_reducible assumption)) (by first | with_reducible assumption | (with_reducible refine f_new ?_; simp; done) | (with_reducible refine f_drew (f_new ?_); simp; done) | (with_reducible refine f_low ?_ (f_new ?_) <;> (simp; done)) | (with_reducible refine f_drew (f_low ?_ (f_new ?_)) <;> (simp; done)) | (with_reducible refine f_drew ?_; with_reducible assumption) | (with_reducible refine f_low (Aside0.out ?_) ?_ <;> with_reducible assumption) | (with_reducible refine f_drew (f_low (Aside0.out ?_) ?_) <;> with_reducible assumption)); have fx4_1 := kf (p := ⟨g, 1, none⟩) (v := .slice G (dig z.natAbs).length gc) hb (by first | with_reducible assumption | (with_reducible refine c_low' ?_; with_reducible assumption) | (with_reducible refine c_drew ?_; with_reducible assumption) | (with_reducible refine c_drew (c_low' ?_); with_reducible assumption) | (with_reducible refine c_low' (c_low' (c_low' (?_))); with_reducible assumption) | (with_reducible refine c_drew (c_low' (c_low' (c_low' (?_)))); with_reducible assumption)) (by first | with_reducible assumption | (with_reducible refine f_new ?_; simp; done) | (with_reducible refine f_drew (f_new ?_); simp; done) | (with_reducible refine f_low ?_ (f_new ?_) <;> (simp; done)) | (with_reducible refine f_drew (f_low ?_ (f_new ?_)) <;> (simp; done)) | (with_reducible refine f_drew ?_; with_reducible assumption) | (with_reducible refine f_low (Aside0.out ?_) ?_ <;> with_reducible assumption) | (with_reducible refine f_drew (f_low (Aside0.out ?_) ?_) <;> with_reducible assumption)); have x4_0 := kc (p := ⟨g, 0, none⟩) (v := .bool (decide (z < 0))) hb (by first | with_reducible assumption | (with_reducible refine c_low' ?_; with_reducible assumption) | (with_reducible refine c_drew ?_; with_reducible assumption) | (with_reducible refine c_drew (c_low' ?_); with_reducible assumption) | (with_reducible refine c_low' (c_low' (c_low' (?_))); with_reducible assumption) | (with_reducible refine c_drew (c_low' (c_low' (c_low' (?_)))); with_reducible assumption)); have x4_1 := kc (p := ⟨g, 1, none⟩) (v := .slice G (dig z.natAbs).length gc) hb (by first | with_reducible assumption | (with_reducible refine c_low' ?_; with_reducible assumption) | (with_reducible refine c_drew ?_; with_reducible assumption) | (with_reducible refine c_drew (c_low' ?_); with_reducible assumption) | (with_reducible refine c_low' (c_low' (c_low' (?_))); with_reducible assumption) | (with_reducible refine c_drew (c_low' (c_low' (c_low' (?_)))); with_reducible assumption)); clear hb))
    obtain ⟨w6, hw6, y0, y1, hf6, hb6, hc6, hk6⟩ := set_box w5 g _ _ (.bool (decide (z2 < 0))) (.slice G2 (dig z2.natAbs).length gc2) x4_0 x4_1
    rw [← hw6]
    have q5_0 := hc6 _ _ M0.out q4_0; have q5_1 := hc6 _ _ M0.out q4_1; have q5_2 := hc6 _ _ M1.out q4_2; have q5_3 := hc6 _ _ M1.out q4_3; have q5_4 := hc6 _ _ M2.out q4_4; have q5_5 := hc6 _ _ M2.out q4_5; have q5_6 := hc6 _ _ M2.out q4_6; have q5_7 := hc6 _ _ M2.out q4_7; have f5_0 := (hf6 _).trans f4_0; have f5_1 := (hf6 _).trans f4_1; have f5_2 := (hf6 _).trans f4_2; have f5_3 := (hf6 _).trans f4_3; have qC5 : Kn (CL _ [⟨w.heap.size, 0, none⟩, ⟨w.heap.size, 1, none⟩, ⟨w.heap.size + 1, 0, none⟩, ⟨w.heap.size + 1, 1, none⟩, ⟨w.heap.size + 1 + 1, 0, none⟩, ⟨w.heap.size + 1 + 1, 1, none⟩, ⟨w.heap.size + 1 + 1, 2, none⟩, ⟨w.heap.size + 1 + 1, 3, none⟩] [.bool (decide (x < 0)), .slice A (dig x.natAbs).length c, .bool (decide (y < 0)), .slice D (dig y.natAbs).length d, .bool false, .slice none 0 0, .bool false, .slice none 0 0]) := ⟨cl_c q5_0 (cl_c q5_1 (cl_c q5_2 (cl_c q5_3 (cl_c q5_4 (cl_c q5_5 (cl_c q5_6 (cl_c q5_7 (cl_n _))))))))⟩; have qF5 : Kn (FZ _ [⟨w.heap.size + 1 + 1, 0, none⟩, ⟨w.heap.size + 1 + 1, 1, none⟩, ⟨w.heap.size + 1 + 1, 2, none⟩, ⟨w.heap.size + 1 + 1, 3, none⟩]) := ⟨fz_c (World.block_lt_of_cell? _ _ q5_4) f5_0 (fz_c (World.block_lt_of_cell? _ _ q5_5) f5_1 (fz_c (World.block_lt_of_cell? _ _ q5_6) f5_2 (fz_c (World.block_lt_of_cell? _ _ q5_7) f5_3 (fz_n _))))⟩
    have qB5 := Kn.mk (qB4.out.trans (hb6.mono (Nat.le_of_lt M0.out)))
    have XG6 := Aside0.mk (hk6 _ _ _ XG5.out (fun h => by have := HG.out; have := h.2; omega))
    have HZ3 : Aside0 (z2 = y.sign * ((Int.gcd x y : Nat) : Int)) := ⟨by rw [HZ2.out, HZ.out, Int.sign_eq_neg_one_of_neg HYS.out]; omega⟩
    have x5_0 := y0; have x5_1 := y1
    clear y0 y1 hf6 hb6 hc6 hk6 hw6
    have LW := Aside0.mk (World.block_lt_of_cell? _ _ q5_7)
    have HZN : Aside0 (z2 ≠ 0) := ⟨by rw [HZ3.out]; exact Int.mul_ne_zero (by rw [Ne, Int.sign_eq_zero_iff_zero]; exact HY.out) (by have := Int.gcd_pos_of_ne_zero_right x HY.out; omega)⟩
    go_upto_region 7 with (first | (go_at_call 72; (with_reducible refine (quo_bi _ _ _ _ _ x z2 (X0.out.below ?hb5) XG6.out HM.out HZN.out).mono ?_); (case hb5 => first | exact Kn.out | with_reducible exact Aside0.out ‹_›); rintro e w7 ⟨v, u, rfl, hv, hu, hb⟩; obtain ⟨n, hn⟩ : ∃ n : Int, x.tdiv z2 = n := ⟨_, rfl⟩; obtain ⟨r, hr⟩ : ∃ r : Int, x.tmod z2 = r := ⟨_, rfl⟩; rw [hn] at hv; rw [hr] at hu; have HN1 := Aside0.mk hn; have XN := Aside0.mk hv; have XG7 := Aside0.mk (XG6.out.below hb); obtain ⟨N, nc, rfl, -⟩ := hv; obtain ⟨R, rc, rfl, -⟩ := hu; clear hn hr; have qB6 := kn_b (w0 := w) hb; have qC6 : Kn (CL _ [⟨w.heap.size, 0, none⟩, ⟨w.heap.size, 1, none⟩, ⟨w.heap.size + 1, 0, none⟩, ⟨w.heap.size + 1, 1, none⟩, ⟨w.heap.size + 1 + 1, 0, none⟩, ⟨w.heap.size + 1 + 1, 1, none⟩, ⟨w.heap.size + 1 + 1, 2, none⟩, ⟨w.heap.size + 1 + 1, 3, none⟩] [.bool (decide (x < 0)), .slice A (dig x.natAbs).length c, .bool (decide (y < 0)), .slice D (dig y.natAbs).length d, .bool false, .slice none 0 0, .bool false, .slice none 0 0]) := kn_c hb; obtain ⟨q6_0, q6_1, q6_2, q6_3, q6_4, q6_5, q6_6, q6_7, -⟩ := qC6.out; have qF6 : Kn (FZ _ [⟨w.heap.size + 1 + 1, 0, none⟩, ⟨w.heap.size + 1 + 1, 1, none⟩, ⟨w.heap.size + 1 + 1, 2, none⟩, ⟨w.heap.size + 1 + 1, 3, none⟩]) := kn_f hb; obtain ⟨⟨-, f6_0⟩, ⟨-, f6_1⟩, ⟨-, f6_2⟩, ⟨-, f6_3⟩, -⟩ := qF6.out; have x6_0 := kc (p := ⟨g, 0, none⟩) (v := .bool (decide (z2 < 0))) hb (by first | with_reducible assumption | (with_reducible refine c_low' ?_; with_reducible assumption) | (with_reducible refine c_drew ?_; with_reducible assumption) | (with_reducible refine c_drew (c_low' ?_); with_reducible assumption) | (with_reducible refine c_low' (c_low' (c_low' (?_))); with_reducible assumption) | (with_reducible refine c_drew (c_low' (c_low' (c_low' (?_)))); with_reducible assumption)); have x6_1 := kc (p := ⟨g, 1, none⟩) (v := .slice G2 (dig z2.natAbs).length gc2) hb (by first | with_reducible assumption | (with_reducible refine c_low' ?_; with_reducible assumption) | (with_reducible refine c_drew ?_; with_reducible assumption) | (with_reducible refine c_drew (c_low' ?_); with_reducible assumption) | (with_reducible refine c_low' (c_low' (c_low' (?_))); with_reducible assumption) | (with_reducible refine c_drew (c_low' (c_low' (c_low' (?_)))); with_reducible assumption)); clear hb))
    obtain ⟨w8, g1, -, hw, hg, -, y0, y1, hb⟩ := two_box w7 (.bool (decide (n < 0))) (.slice N (dig (Int.natAbs n)).length nc) (.bool (decide (r < 0))) (.slice R (dig (Int.natAbs r)).length rc) 85
    rw [← hw, ← hg]
    have qB7 := Kn.mk (below_step qB6.out hb); have f7_0 := kf hb q6_4 f6_0; have f7_1 := kf hb q6_5 f6_1; have f7_2 := kf hb q6_6 f6_2; have f7_3 := kf hb q6_7 f6_3; have q7_0 := kc hb q6_0; have q7_1 := kc hb q6_1; have q7_2 := kc hb q6_2; have q7_3 := kc hb q6_3; have q7_4 := kc hb q6_4; have q7_5 := kc hb q6_5; have q7_6 := kc hb q6_6; have q7_7 := kc hb q6_7; have x7_0 := kc hb x6_0; have x7_1 := kc hb x6_1; have qC7 : Kn (CL _ [⟨w.heap.size, 0, none⟩, ⟨w.heap.size, 1, none⟩, ⟨w.heap.size + 1, 0, none⟩, ⟨w.heap.size + 1, 1, none⟩, ⟨w.heap.size + 1 + 1, 0, none⟩, ⟨w.heap.size + 1 + 1, 1, none⟩, ⟨w.heap.size + 1 + 1, 2, none⟩, ⟨w.heap.size + 1 + 1, 3, none⟩] [.bool (decide (x < 0)), .slice A (dig x.natAbs).length c, .bool (decide (y < 0)), .slice D (dig y.natAbs).length d, .bool false, .slice none 0 0, .bool false, .slice none 0 0]) := ⟨cl_c q7_0 (cl_c q7_1 (cl_c q7_2 (cl_c q7_3 (cl_c q7_4 (cl_c q7_5 (cl_c q7_6 (cl_c q7_7 (cl_n _))))))))⟩; have qF7 : Kn (FZ _ [⟨w.heap.size + 1 + 1, 0, none⟩, ⟨w.heap.size + 1 + 1, 1, none⟩, ⟨w.heap.size + 1 + 1, 2, none⟩, ⟨w.heap.size + 1 + 1, 3, none⟩]) := ⟨fz_c (World.block_lt_of_cell? _ _ q7_4) f7_0 (fz_c (World.block_lt_of_cell? _ _ q7_5) f7_1 (fz_c (World.block_lt_of_cell? _ _ q7_6) f7_2 (fz_c (World.block_lt_of_cell? _ _ q7_7) f7_3 (fz_n _))))⟩
    have HB_w8 := Aside0.mk hb
    clear hw hg hb
    have x7_2 := y0; have x7_3 := y1
    clear y0 y1
    have XG8 := Aside0.mk (XG7.out.below HB_w8.out)
    have XN8 := Aside0.mk (XN.out.below HB_w8.out)
    have LW8 := Aside0.mk (World.block_lt_of_cell? _ _ q7_7)
    go_upto_region 8 with (first | (go_at_call 72; (with_reducible refine (quo_bi _ _ _ _ _ y z2 (X1.out.below ?hb6) XG8.out HN.out HZN.out).mono ?_); (case hb6 => first | exact Kn.out | with_reducible exact Aside0.out ‹_›); rintro e w9 ⟨v, u, rfl, hv, hu, hb⟩; obtain ⟨m, hn⟩ : ∃ m : Int, y.tdiv z2 = m := ⟨_, rfl⟩; obtain ⟨r2, hr⟩ : ∃ r : Int, y.tmod z2 = r := ⟨_, rfl⟩; rw [hn] at hv; rw [hr] at hu; have HN2 := Aside0.mk hn; have XM := Aside0.mk hv; have XN9 := Aside0.mk (XN8.out.below hb); obtain ⟨M, mc, rfl, -⟩ := hv; obtain ⟨R2, rc2, rfl, -⟩ := hu; clear hn hr; have qB8 := kn_b (w0 := w) hb; have qC8 : Kn (CL _ [⟨w.heap.size, 0, none⟩, ⟨w.heap.size, 1, none⟩, ⟨w.heap.size + 1, 0, none⟩, ⟨w.heap.size + 1, 1, none⟩, ⟨w.heap.size + 1 + 1, 0, none⟩, ⟨w.heap.size + 1 + 1, 1, none⟩, ⟨w.heap.size + 1 + 1, 2, none⟩, ⟨w.heap.size + 1 + 1, 3, none⟩] [.bool (decide (x < 0)), .slice A (dig x.natAbs).length c, .bool (decide (y < 0)), .slice D (dig y.natAbs).length d, .bool false, .slice none 0 0, .bool false, .slice none 0 0]) := kn_c hb; obtain ⟨q8_0, q8_1, q8_2, q8_3, q8_4, q8_5, q8_6, q8_7, -⟩ := qC8.out; have qF8 : Kn (FZ _ [⟨w.heap.size + 1 + 1, 0, none⟩, ⟨w.heap.size + 1 + 1, 1, none⟩, ⟨w.heap.size + 1 + 1, 2, none⟩, ⟨w.heap.size + 1 + 1, 3, none⟩]) := kn_f hb; obtain ⟨⟨-, f8_0⟩, ⟨-, f8_1⟩, ⟨-, f8_2⟩, ⟨-, f8_3⟩, -⟩ := qF8.out; have x8_0 := kc (p := ⟨g, 0, none⟩) (v := .bool (decide (z2 < 0))) hb (by first | with_reducible assumption | (with_reducible refine c_low' ?_; with_reducible assumption) | (with_reducible refine c_drew ?_; with_reducible assumption) | (with_reducible refine c_drew (c_low' ?_); with_reducible assumption) | (with_reducible refine c_low' (c_low' (c_low' (?_))); with_reducible assumption) | (with_reducible refine c_drew (c_low' (c_low' (c_low' (?_)))); with_reducible assumption)); have x8_1 := kc (p := ⟨g, 1, none⟩) (v := .slice G2 (dig z2.natAbs).length gc2) hb (by first | with_reducible assumption | (with_reducible refine c_low' ?_; with_reducible assumption) | (with_reducible refine c_drew ?_; with_reducible assumption) | (with_reducible refine c_drew (c_low' ?_); with_reducible assumption) | (with_reducible refine c_low' (c_low' (c_low' (?_))); with_reducible assumption) | (with_reducible refine c_drew (c_low' (c_low' (c_low' (?_)))); with_reducible assumption)); have x8_2 := kc (p := ⟨g1, 0, none⟩) (v := (.bool (decide (n < 0)))) hb (by first | with_reducible assumption | (with_reducible refine c_low' ?_; with_reducible assumption) | (with_reducible refine c_drew ?_; with_reducible assumption) | (with_reducible refine c_drew (c_low' ?_); with_reducible assumption) | (with_reducible refine c_low' (c_low' (c_low' (?_))); with_reducible assumption) | (with_reducible refine c_drew (c_low' (c_low' (c_low' (?_)))); with_reducible assumption)); have x8_3 := kc (p := ⟨g1, 1, none⟩) (v := (.slice N (dig (Int.natAbs n)).length nc)) hb (by first | with_reducible assumption | (with_reducible refine c_low' ?_; with_reducible assumption) | (with_reducible refine c_drew ?_; with_reducible assumption) | (with_reducible refine c_drew (c_low' ?_); with_reducible assumption) | (with_reducible refine c_low' (c_low' (c_low' (?_))); with_reducible assumption) | (with_reducible refine c_drew (c_low' (c_low' (c_low' (?_)))); with_reducible assumption)); clear hb))
    obtain ⟨w10, g2, -, hw, hg, -, y0, y1, hb⟩ := two_box w9 (.bool (decide (m < 0))) (.slice M (dig (Int.natAbs m)).length mc) (.bool (decide (r2 < 0))) (.slice R2 (dig (Int.natAbs r2)).length rc2) 85
    rw [← hw, ← hg]
    have qB9 := Kn.mk (below_step qB8.out hb); have f9_0 := kf hb q8_4 f8_0; have f9_1 := kf hb q8_5 f8_1; have f9_2 := kf hb q8_6 f8_2; have f9_3 := kf hb q8_7 f8_3; have q9_0 := kc hb q8_0; have q9_1 := kc hb q8_1; have q9_2 := kc hb q8_2; have q9_3 := kc hb q8_3; have q9_4 := kc hb q8_4; have q9_5 := kc hb q8_5; have q9_6 := kc hb q8_6; have q9_7 := kc hb q8_7; have x9_0 := kc hb x8_0; have x9_1 := kc hb x8_1; have x9_2 := kc hb x8_2; have x9_3 := kc hb x8_3; have qC9 : Kn (CL _ [⟨w.heap.size, 0, none⟩, ⟨w.heap.size, 1, none⟩, ⟨w.heap.size + 1, 0, none⟩, ⟨w.heap.size + 1, 1, none⟩, ⟨w.heap.size + 1 + 1, 0, none⟩, ⟨w.heap.size + 1 + 1, 1, none⟩, ⟨w.heap.size + 1 + 1, 2, none⟩, ⟨w.heap.size + 1 + 1, 3, none⟩] [.bool (decide (x < 0)), .slice A (dig x.natAbs).length c, .bool (decide (y < 0)), .slice D (dig y.natAbs).length d, .bool false, .slice none 0 0, .bool false, .slice none 0 0]) := ⟨cl_c q9_0 (cl_c q9_1 (cl_c q9_2 (cl_c q9_3 (cl_c q9_4 (cl_c q9_5 (cl_c q9_6 (cl_c q9_7 (cl_n _))))))))⟩; have qF9 : Kn (FZ _ [⟨w.heap.size + 1 + 1, 0, none⟩, ⟨w.heap.size + 1 + 1, 1, none⟩, ⟨w.heap.size + 1 + 1, 2, none⟩, ⟨w.heap.size + 1 + 1, 3, none⟩]) := ⟨fz_c (World.block_lt_of_cell? _ _ q9_4) f9_0 (fz_c (World.block_lt_of_cell? _ _ q9_5) f9_1 (fz_c (World.block_lt_of_cell? _ _ q9_6) f9_2 (fz_c (World.block_lt_of_cell? _ _ q9_7) f9_3 (fz_n _))))⟩
    have HB_w10 := Aside0.mk hb
    clear hw hg hb
    have x9_4 := y0; have x9_5 := y1
    clear y0 y1
    have XN10 := Aside0.mk (XN9.out.below HB_w10.out)
    have XM10 := Aside0.mk (XM.out.below HB_w10.out)
    go_wp2
    have hN : (Rat.divInt x y).num = n := by rw [ratio_num HY.out, ← HZ3.out]; exact HN1.out
    have hM : ((Rat.divInt x y).den : Int) = m := by rw [ratio_den HY.out, ← HZ3.out]; exact HN2.out
    refine bodyPost_ret (v := .agg #[(.bool (decide (n < 0))), (.slice N (dig (Int.natAbs n)).length nc), (.bool (decide (m < 0))), (.slice M (dig (Int.natAbs m)).length mc)]) (by simp [results, Try.results55, go_sem, q9_4, q9_5, q9_6, q9_7]) rfl ⟨_, rfl, ⟨N, M, nc, mc, m, by rw [hN], ?_, ?_, .inl hM.symm⟩, ?_⟩
    · rw [hN]; exact ((((XN10.out.set' (p := ⟨w.heap.size + 1 + 1, 0, none⟩) (Nat.not_le.2 LW.out) _).set' (p := ⟨w.heap.size + 1 + 1, 1, none⟩) (Nat.not_le.2 LW.out) _).set' (p := ⟨w.heap.size + 1 + 1, 2, none⟩) (Nat.not_le.2 LW.out) _).set' (p := ⟨w.heap.size + 1 + 1, 3, none⟩) (Nat.not_le.2 LW.out) _).mono fun k hk => Nat.le_trans (Nat.le_of_lt (Nat.lt_of_le_of_lt (le_two _) LW.out)) hk
    · exact ((((XM10.out.set' (p := ⟨w.heap.size + 1 + 1, 0, none⟩) (Nat.not_le.2 LW8.out) _).set' (p := ⟨w.heap.size + 1 + 1, 1, none⟩) (Nat.not_le.2 LW8.out) _).set' (p := ⟨w.heap.size + 1 + 1, 2, none⟩) (Nat.not_le.2 LW8.out) _).set' (p := ⟨w.heap.size + 1 + 1, 3, none⟩) (Nat.not_le.2 LW8.out) _).mono fun k hk => Nat.le_trans (Nat.le_of_lt (Nat.lt_of_le_of_lt (le_two _) LW8.out)) hk
    · exact below_set (below_set (below_set (below_set qB9.out (le_two _)) (le_two _)) (le_two _)) (le_two _)
  · have hsy : decide (sy < 0) = false := by rw [decide_eq_false_iff_not, ← SY.out]; intro h; have := Int.sign_neg_iff.1 h; omega
    have HYS := Aside0.mk hs
    clear hs
    go_enter Try.func55, Try.ntmps55
    go_upto_region 4 with (first | (go_at_call 69; (with_reducible refine (sign_is _ _ _ x sx (X0.out.below ?hb1) SX.out).mono ?_); (case hb1 => first | exact Kn.out | with_reducible exact Aside0.out ‹_›); rintro e w1 ⟨rfl, hb⟩; have qB0 := kn_b (w0 := w) hb; have qC0 : Kn (CL _ [⟨w.heap.size, 0, none⟩, ⟨w.heap.size, 1, none⟩, ⟨w.heap.size + 1, 0, none⟩, ⟨w.heap.size + 1, 1, none⟩, ⟨w.heap.size + 1 + 1, 0, none⟩, ⟨w.heap.size + 1 + 1, 1, none⟩, ⟨w.heap.size + 1 + 1, 2, none⟩, ⟨w.heap.size + 1 + 1, 3, none⟩] [.bool (decide (x < 0)), .slice A (dig x.natAbs).length c, .bool (decide (y < 0)), .slice D (dig y.natAbs).length d, .bool false, .slice none 0 0, .bool false, .slice none 0 0]) := kn_c hb; obtain ⟨q0_0, q0_1, q0_2, q0_3, q0_4, q0_5, q0_6, q0_7, -⟩ := qC0.out; have qF0 : Kn (FZ _ [⟨w.heap.size + 1 + 1, 0, none⟩, ⟨w.heap.size + 1 + 1, 1, none⟩, ⟨w.heap.size + 1 + 1, 2, none⟩, ⟨w.heap.size + 1 + 1, 3, none⟩]) := kn_f hb; obtain ⟨⟨-, f0_0⟩, ⟨-, f0_1⟩, ⟨-, f0_2⟩, ⟨-, f0_3⟩, -⟩ := qF0.out; clear hb) | (go_at_call 70; (with_reducible refine (gcd_any _ _ _ _ x y (X0.out.below ?hb2) (X1.out.below ?hb2) HM.out HN.out).mono ?_); (case hb2 => first | exact Kn.out | with_reducible exact Aside0.out ‹_›); rintro e w2 ⟨v, rfl, hv, hb⟩; obtain ⟨z, hz⟩ : ∃ z : Int, z = ((Int.gcd x y : Nat) : Int) := ⟨_, rfl⟩; rw [← hz] at hv; have HZ := Aside0.mk hz; have XG0 := Aside0.mk hv.low; obtain ⟨G, gc, rfl, -⟩ := hv; have W12 := Aside0.mk hb; clear hz; have qB1 := kn_b (w0 := w) hb; have qC1 : Kn (CL _ [⟨w.heap.size, 0, none⟩, ⟨w.heap.size, 1, none⟩, ⟨w.heap.size + 1, 0, none⟩, ⟨w.heap.size + 1, 1, none⟩, ⟨w.heap.size + 1 + 1, 0, none⟩, ⟨w.heap.size + 1 + 1, 1, none⟩, ⟨w.heap.size + 1 + 1, 2, none⟩, ⟨w.heap.size + 1 + 1, 3, none⟩] [.bool (decide (x < 0)), .slice A (dig x.natAbs).length c, .bool (decide (y < 0)), .slice D (dig y.natAbs).length d, .bool false, .slice none 0 0, .bool false, .slice none 0 0]) := kn_c hb; obtain ⟨q1_0, q1_1, q1_2, q1_3, q1_4, q1_5, q1_6, q1_7, -⟩ := qC1.out; have qF1 : Kn (FZ _ [⟨w.heap.size + 1 + 1, 0, none⟩, ⟨w.heap.size + 1 + 1, 1, none⟩, ⟨w.heap.size + 1 + 1, 2, none⟩, ⟨w.heap.size + 1 + 1, 3, none⟩]) := kn_f hb; obtain ⟨⟨-, f1_0⟩, ⟨-, f1_1⟩, ⟨-, f1_2⟩, ⟨-, f1_3⟩, -⟩ := qF1.out; clear hb))
    obtain ⟨w3, g, hw3, hg, x2_0, x2_1, fx2_0, fx2_1, hb3⟩ := one_box w2 (.bool (decide (z < 0))) (.slice G (dig z.natAbs).length gc) 85
    rw [← hw3, ← hg]
    have W23 := Aside0.mk hb3
    have qB2 := Kn.mk (below_step qB1.out hb3); have f2_0 := kf hb3 q1_4 f1_0; have f2_1 := kf hb3 q1_5 f1_1; have f2_2 := kf hb3 q1_6 f1_2; have f2_3 := kf hb3 q1_7 f1_3; have q2_0 := kc hb3 q1_0; have q2_1 := kc hb3 q1_1; have q2_2 := kc hb3 q1_2; have q2_3 := kc hb3 q1_3; have q2_4 := kc hb3 q1_4; have q2_5 := kc hb3 q1_5; have q2_6 := kc hb3 q1_6; have q2_7 := kc hb3 q1_7; have qC2 : Kn (CL _ [⟨w.heap.size, 0, none⟩, ⟨w.heap.size, 1, none⟩, ⟨w.heap.size + 1, 0, none⟩, ⟨w.heap.size + 1, 1, none⟩, ⟨w.heap.size + 1 + 1, 0, none⟩, ⟨w.heap.size + 1 + 1, 1, none⟩, ⟨w.heap.size + 1 + 1, 2, none⟩, ⟨w.heap.size + 1 + 1, 3, none⟩] [.bool (decide (x < 0)), .slice A (dig x.natAbs).length c, .bool (decide (y < 0)), .slice D (dig y.natAbs).length d, .bool false, .slice none 0 0, .bool false, .slice none 0 0]) := ⟨cl_c q2_0 (cl_c q2_1 (cl_c q2_2 (cl_c q2_3 (cl_c q2_4 (cl_c q2_5 (cl_c q2_6 (cl_c q2_7 (cl_n _))))))))⟩; have qF2 : Kn (FZ _ [⟨w.heap.size + 1 + 1, 0, none⟩, ⟨w.heap.size + 1 + 1, 1, none⟩, ⟨w.heap.size + 1 + 1, 2, none⟩, ⟨w.heap.size + 1 + 1, 3, none⟩]) := ⟨fz_c (World.block_lt_of_cell? _ _ q2_4) f2_0 (fz_c (World.block_lt_of_cell? _ _ q2_5) f2_1 (fz_c (World.block_lt_of_cell? _ _ q2_6) f2_2 (fz_c (World.block_lt_of_cell? _ _ q2_7) f2_3 (fz_n _))))⟩
    have HG := Aside0.mk hg
    have XG := Aside0.mk (XG0.out.below hb3)
    clear hw3 hg hb3
    have L2 : w.heap.size + 1 + 1 < g := by rw [HG.out]; exact World.block_lt_of_cell? _ _ q1_7
    have L1 : w.heap.size + 1 < g := by omega
    have L0 : w.heap.size < g := by omega
    have M0 := Aside0.mk L0
    have M1 := Aside0.mk L1
    have M2 := Aside0.mk L2
    clear L0 L1 L2
    go_upto_region 6 with (first | (go_at_call 69; (with_reducible refine (sign_is _ _ _ y sy (X1.out.below ?hb3) SY.out).mono ?_); (case hb3 => first | exact Kn.out | with_reducible exact Aside0.out ‹_›); rintro e w4 ⟨rfl, hb⟩; have XG4 := Aside0.mk (XG.out.below hb); have qB3 := kn_b (w0 := w) hb; have qC3 : Kn (CL _ [⟨w.heap.size, 0, none⟩, ⟨w.heap.size, 1, none⟩, ⟨w.heap.size + 1, 0, none⟩, ⟨w.heap.size + 1, 1, none⟩, ⟨w.heap.size + 1 + 1, 0, none⟩, ⟨w.heap.size + 1 + 1, 1, none⟩, ⟨w.heap.size + 1 + 1, 2, none⟩, ⟨w.heap.size + 1 + 1, 3, none⟩] [.bool (decide (x < 0)), .slice A (dig x.natAbs).length c, .bool (decide (y < 0)), .slice D (dig y.natAbs).length d, .bool false, .slice none 0 0, .bool false, .slice none 0 0]) := kn_c hb; obtain ⟨q3_0, q3_1, q3_2, q3_3, q3_4, q3_5, q3_6, q3_7, -⟩ := qC3.out; have qF3 : Kn (FZ _ [⟨w.heap.size + 1 + 1, 0, none⟩, ⟨w.heap.size + 1 + 1, 1, none⟩, ⟨w.heap.size + 1 + 1, 2, none⟩, ⟨w.heap.size + 1 + 1, 3, none⟩]) := kn_f hb; obtain ⟨⟨-, f3_0⟩, ⟨-, f3_1⟩, ⟨-, f3_2⟩, ⟨-, f3_3⟩, -⟩ := qF3.out; have fx3_0 := kf (p := ⟨g, 0, none⟩) (v := .bool (decide (z < 0))) hb (by first | with_reducible assumption | (with_reducible refine c_low' ?_; with_reducible assumption) | (with_reducible refine c_drew ?_; with_reducible assumption) | (with_reducible refine c_drew (c_low' ?_); with_reducible assumption) | (with_reducible refine c_low' (c_low' (c_low' (?_))); with_reducible assumption) | (with_reducible refine c_drew (c_low' (c_low' (c_low' (?_)))); with_reducible assumption)) (by first | with_reducible assumption | (with_reducible refine f_new ?_; simp; done) | (with_reducible refine f_drew (f_new ?_); simp; done) | (with_reducible refine f_low ?_ (f_new ?_) <;> (simp; done)) | (with_reducible refine f_drew (f_low ?_ (f_new ?_)) <;> (simp; done)) | (with_reducible refine f_drew ?_; with_reducible assumption) | (with_reducible refine f_low (Aside0.out ?_) ?_ <;> with_reducible assumption) | (with_reducible refine f_drew (f_low (Aside0.out ?_) ?_) <;> with_reducible assumption)); have fx3_1 := kf (p := ⟨g, 1, none⟩) (v := .slice G (dig z.natAbs).length gc) hb (by first | with_reducible assumption | (with_reducible refine c_low' ?_; with_reducible assumption) | (with_reducible refine c_drew ?_; with_reducible assumption) | (with_reducible refine c_drew (c_low' ?_); with_reducible assumption) | (with_reducible refine c_low' (c_low' (c_low' (?_))); with_reducible assumption) | (with_reducible refine c_drew (c_low' (c_low' (c_low' (?_)))); with_reducible assumption)) (by first | with_reducible assumption | (with_reducible refine f_new ?_; simp; done) | (with_reducible refine f_drew (f_new ?_); simp; done) | (with_reducible refine f_low ?_ (f_new ?_) <;> (simp; done)) | (with_reducible refine f_drew (f_low ?_ (f_new ?_)) <;> (simp; done)) | (with_reducible refine f_drew ?_; with_reducible assumption) | (with_reducible refine f_low (Aside0.out ?_) ?_ <;> with_reducible assumption) | (with_reducible refine f_drew (f_low (Aside0.out ?_) ?_) <;> with_reducible assumption)); have x3_0 := kc (p := ⟨g, 0, none⟩) (v := .bool (decide (z < 0))) hb (by first | with_reducible assumption | (with_reducible refine c_low' ?_; with_reducible assumption) | (with_reducible refine c_drew ?_; with_reducible assumption) | (with_reducible refine c_drew (c_low' ?_); with_reducible assumption) | (with_reducible refine c_low' (c_low' (c_low' (?_))); with_reducible assumption) | (with_reducible refine c_drew (c_low' (c_low' (c_low' (?_)))); with_reducible assumption)); have x3_1 := kc (p := ⟨g, 1, none⟩) (v := .slice G (dig z.natAbs).length gc) hb (by first | with_reducible assumption | (with_reducible refine c_low' ?_; with_reducible assumption) | (with_reducible refine c_drew ?_; with_reducible assumption) | (with_reducible refine c_drew (c_low' ?_); with_reducible assumption) | (with_reducible refine c_low' (c_low' (c_low' (?_))); with_reducible assumption) | (with_reducible refine c_drew (c_low' (c_low' (c_low' (?_)))); with_reducible assumption)); clear hb))
    have XG6 := XG4
    have HZ3 : Aside0 (z = y.sign * ((Int.gcd x y : Nat) : Int)) := ⟨by rw [HZ.out, Int.sign_eq_one_of_pos (by have := HYS.out; have := HY.out; omega), Int.one_mul]⟩
    have LW := Aside0.mk (World.block_lt_of_cell? _ _ q3_7)
    have HZN : Aside0 (z ≠ 0) := ⟨by rw [HZ3.out]; exact Int.mul_ne_zero (by rw [Ne, Int.sign_eq_zero_iff_zero]; exact HY.out) (by have := Int.gcd_pos_of_ne_zero_right x HY.out; omega)⟩
    go_upto_region 7 with (first | (go_at_call 72; (with_reducible refine (quo_bi _ _ _ _ _ x z (X0.out.below ?hb5) XG6.out HM.out HZN.out).mono ?_); (case hb5 => first | exact Kn.out | with_reducible exact Aside0.out ‹_›); rintro e w7 ⟨v, u, rfl, hv, hu, hb⟩; obtain ⟨n, hn⟩ : ∃ n : Int, x.tdiv z = n := ⟨_, rfl⟩; obtain ⟨r, hr⟩ : ∃ r : Int, x.tmod z = r := ⟨_, rfl⟩; rw [hn] at hv; rw [hr] at hu; have HN1 := Aside0.mk hn; have XN := Aside0.mk hv; have XG7 := Aside0.mk (XG6.out.below hb); obtain ⟨N, nc, rfl, -⟩ := hv; obtain ⟨R, rc, rfl, -⟩ := hu; clear hn hr; have qB4 := kn_b (w0 := w) hb; have qC4 : Kn (CL _ [⟨w.heap.size, 0, none⟩, ⟨w.heap.size, 1, none⟩, ⟨w.heap.size + 1, 0, none⟩, ⟨w.heap.size + 1, 1, none⟩, ⟨w.heap.size + 1 + 1, 0, none⟩, ⟨w.heap.size + 1 + 1, 1, none⟩, ⟨w.heap.size + 1 + 1, 2, none⟩, ⟨w.heap.size + 1 + 1, 3, none⟩] [.bool (decide (x < 0)), .slice A (dig x.natAbs).length c, .bool (decide (y < 0)), .slice D (dig y.natAbs).length d, .bool false, .slice none 0 0, .bool false, .slice none 0 0]) := kn_c hb; obtain ⟨q4_0, q4_1, q4_2, q4_3, q4_4, q4_5, q4_6, q4_7, -⟩ := qC4.out; have qF4 : Kn (FZ _ [⟨w.heap.size + 1 + 1, 0, none⟩, ⟨w.heap.size + 1 + 1, 1, none⟩, ⟨w.heap.size + 1 + 1, 2, none⟩, ⟨w.heap.size + 1 + 1, 3, none⟩]) := kn_f hb; obtain ⟨⟨-, f4_0⟩, ⟨-, f4_1⟩, ⟨-, f4_2⟩, ⟨-, f4_3⟩, -⟩ := qF4.out; have x4_0 := kc (p := ⟨g, 0, none⟩) (v := .bool (decide (z < 0))) hb (by first | with_reducible assumption | (with_reducible refine c_low' ?_; with_reducible assumption) | (with_reducible refine c_drew ?_; with_reducible assumption) | (with_reducible refine c_drew (c_low' ?_); with_reducible assumption) | (with_reducible refine c_low' (c_low' (c_low' (?_))); with_reducible assumption) | (with_reducible refine c_drew (c_low' (c_low' (c_low' (?_)))); with_reducible assumption)); have x4_1 := kc (p := ⟨g, 1, none⟩) (v := .slice G (dig z.natAbs).length gc) hb (by first | with_reducible assumption | (with_reducible refine c_low' ?_; with_reducible assumption) | (with_reducible refine c_drew ?_; with_reducible assumption) | (with_reducible refine c_drew (c_low' ?_); with_reducible assumption) | (with_reducible refine c_low' (c_low' (c_low' (?_))); with_reducible assumption) | (with_reducible refine c_drew (c_low' (c_low' (c_low' (?_)))); with_reducible assumption)); clear hb))
    obtain ⟨w8, g1, -, hw, hg, -, y0, y1, hb⟩ := two_box w7 (.bool (decide (n < 0))) (.slice N (dig (Int.natAbs n)).length nc) (.bool (decide (r < 0))) (.slice R (dig (Int.natAbs r)).length rc) 85
    rw [← hw, ← hg]
    have qB5 := Kn.mk (below_step qB4.out hb); have f5_0 := kf hb q4_4 f4_0; have f5_1 := kf hb q4_5 f4_1; have f5_2 := kf hb q4_6 f4_2; have f5_3 := kf hb q4_7 f4_3; have q5_0 := kc hb q4_0; have q5_1 := kc hb q4_1; have q5_2 := kc hb q4_2; have q5_3 := kc hb q4_3; have q5_4 := kc hb q4_4; have q5_5 := kc hb q4_5; have q5_6 := kc hb q4_6; have q5_7 := kc hb q4_7; have x5_0 := kc hb x4_0; have x5_1 := kc hb x4_1; have qC5 : Kn (CL _ [⟨w.heap.size, 0, none⟩, ⟨w.heap.size, 1, none⟩, ⟨w.heap.size + 1, 0, none⟩, ⟨w.heap.size + 1, 1, none⟩, ⟨w.heap.size + 1 + 1, 0, none⟩, ⟨w.heap.size + 1 + 1, 1, none⟩, ⟨w.heap.size + 1 + 1, 2, none⟩, ⟨w.heap.size + 1 + 1, 3, none⟩] [.bool (decide (x < 0)), .slice A (dig x.natAbs).length c, .bool (decide (y < 0)), .slice D (dig y.natAbs).length d, .bool false, .slice none 0 0, .bool false, .slice none 0 0]) := ⟨cl_c q5_0 (cl_c q5_1 (cl_c q5_2 (cl_c q5_3 (cl_c q5_4 (cl_c q5_5 (cl_c q5_6 (cl_c q5_7 (cl_n _))))))))⟩; have qF5 : Kn (FZ _ [⟨w.heap.size + 1 + 1, 0, none⟩, ⟨w.heap.size + 1 + 1, 1, none⟩, ⟨w.heap.size + 1 + 1, 2, none⟩, ⟨w.heap.size + 1 + 1, 3, none⟩]) := ⟨fz_c (World.block_lt_of_cell? _ _ q5_4) f5_0 (fz_c (World.block_lt_of_cell? _ _ q5_5) f5_1 (fz_c (World.block_lt_of_cell? _ _ q5_6) f5_2 (fz_c (World.block_lt_of_cell? _ _ q5_7) f5_3 (fz_n _))))⟩
    have HB_w8 := Aside0.mk hb
    clear hw hg hb
    have x5_2 := y0; have x5_3 := y1
    clear y0 y1
    have XG8 := Aside0.mk (XG7.out.below HB_w8.out)
    have XN8 := Aside0.mk (XN.out.below HB_w8.out)
    have LW8 := Aside0.mk (World.block_lt_of_cell? _ _ q5_7)
    go_upto_region 8 with (first | (go_at_call 72; (with_reducible refine (quo_bi _ _ _ _ _ y z (X1.out.below ?hb6) XG8.out HN.out HZN.out).mono ?_); (case hb6 => first | exact Kn.out | with_reducible exact Aside0.out ‹_›); rintro e w9 ⟨v, u, rfl, hv, hu, hb⟩; obtain ⟨m, hn⟩ : ∃ m : Int, y.tdiv z = m := ⟨_, rfl⟩; obtain ⟨r2, hr⟩ : ∃ r : Int, y.tmod z = r := ⟨_, rfl⟩; rw [hn] at hv; rw [hr] at hu; have HN2 := Aside0.mk hn; have XM := Aside0.mk hv; have XN9 := Aside0.mk (XN8.out.below hb); obtain ⟨M, mc, rfl, -⟩ := hv; obtain ⟨R2, rc2, rfl, -⟩ := hu; clear hn hr; have qB6 := kn_b (w0 := w) hb; have qC6 : Kn (CL _ [⟨w.heap.size, 0, none⟩, ⟨w.heap.size, 1, none⟩, ⟨w.heap.size + 1, 0, none⟩, ⟨w.heap.size + 1, 1, none⟩, ⟨w.heap.size + 1 + 1, 0, none⟩, ⟨w.heap.size + 1 + 1, 1, none⟩, ⟨w.heap.size + 1 + 1, 2, none⟩, ⟨w.heap.size + 1 + 1, 3, none⟩] [.bool (decide (x < 0)), .slice A (dig x.natAbs).length c, .bool (decide (y < 0)), .slice D (dig y.natAbs).length d, .bool false, .slice none 0 0, .bool false, .slice none 0 0]) := kn_c hb; obtain ⟨q6_0, q6_1, q6_2, q6_3, q6_4, q6_5, q6_6, q6_7, -⟩ := qC6.out; have qF6 : Kn (FZ _ [⟨w.heap.size + 1 + 1, 0, none⟩, ⟨w.heap.size + 1 + 1, 1, none⟩, ⟨w.heap.size + 1 + 1, 2, none⟩, ⟨w.heap.size + 1 + 1, 3, none⟩]) := kn_f hb; obtain ⟨⟨-, f6_0⟩, ⟨-, f6_1⟩, ⟨-, f6_2⟩, ⟨-, f6_3⟩, -⟩ := qF6.out; have x6_0 := kc (p := ⟨g, 0, none⟩) (v := .bool (decide (z < 0))) hb (by first | with_reducible assumption | (with_reducible refine c_low' ?_; with_reducible assumption) | (with_reducible refine c_drew ?_; with_reducible assumption) | (with_reducible refine c_drew (c_low' ?_); with_reducible assumption) | (with_reducible refine c_low' (c_low' (c_low' (?_))); with_reducible assumption) | (with_reducible refine c_drew (c_low' (c_low' (c_low' (?_)))); with_reducible assumption)); have x6_1 := kc (p := ⟨g, 1, none⟩) (v := .slice G (dig z.natAbs).length gc) hb (by first | with_reducible assumption | (with_reducible refine c_low' ?_; with_reducible assumption) | (with_reducible refine c_drew ?_; with_reducible assumption) | (with_reducible refine c_drew (c_low' ?_); with_reducible assumption) | (with_reducible refine c_low' (c_low' (c_low' (?_))); with_reducible assumption) | (with_reducible refine c_drew (c_low' (c_low' (c_low' (?_)))); with_reducible assumption)); have x6_2 := kc (p := ⟨g1, 0, none⟩) (v := (.bool (decide (n < 0)))) hb (by first | with_reducible assumption | (with_reducible refine c_low' ?_; with_reducible assumption) | (with_reducible refine c_drew ?_; with_reducible assumption) | (with_reducible refine c_drew (c_low' ?_); with_reducible assumption) | (with_reducible refine c_low' (c_low' (c_low' (?_))); with_reducible assumption) | (with_reducible refine c_drew (c_low' (c_low' (c_low' (?_)))); with_reducible assumption)); have x6_3 := kc (p := ⟨g1, 1, none⟩) (v := (.slice N (dig (Int.natAbs n)).length nc)) hb (by first | with_reducible assumption | (with_reducible refine c_low' ?_; with_reducible assumption) | (with_reducible refine c_drew ?_; with_reducible assumption) | (with_reducible refine c_drew (c_low' ?_); with_reducible assumption) | (with_reducible refine c_low' (c_low' (c_low' (?_))); with_reducible assumption) | (with_reducible refine c_drew (c_low' (c_low' (c_low' (?_)))); with_reducible assumption)); clear hb))
    obtain ⟨w10, g2, -, hw, hg, -, y0, y1, hb⟩ := two_box w9 (.bool (decide (m < 0))) (.slice M (dig (Int.natAbs m)).length mc) (.bool (decide (r2 < 0))) (.slice R2 (dig (Int.natAbs r2)).length rc2) 85
    rw [← hw, ← hg]
    have qB7 := Kn.mk (below_step qB6.out hb); have f7_0 := kf hb q6_4 f6_0; have f7_1 := kf hb q6_5 f6_1; have f7_2 := kf hb q6_6 f6_2; have f7_3 := kf hb q6_7 f6_3; have q7_0 := kc hb q6_0; have q7_1 := kc hb q6_1; have q7_2 := kc hb q6_2; have q7_3 := kc hb q6_3; have q7_4 := kc hb q6_4; have q7_5 := kc hb q6_5; have q7_6 := kc hb q6_6; have q7_7 := kc hb q6_7; have x7_0 := kc hb x6_0; have x7_1 := kc hb x6_1; have x7_2 := kc hb x6_2; have x7_3 := kc hb x6_3; have qC7 : Kn (CL _ [⟨w.heap.size, 0, none⟩, ⟨w.heap.size, 1, none⟩, ⟨w.heap.size + 1, 0, none⟩, ⟨w.heap.size + 1, 1, none⟩, ⟨w.heap.size + 1 + 1, 0, none⟩, ⟨w.heap.size + 1 + 1, 1, none⟩, ⟨w.heap.size + 1 + 1, 2, none⟩, ⟨w.heap.size + 1 + 1, 3, none⟩] [.bool (decide (x < 0)), .slice A (dig x.natAbs).length c, .bool (decide (y < 0)), .slice D (dig y.natAbs).length d, .bool false, .slice none 0 0, .bool false, .slice none 0 0]) := ⟨cl_c q7_0 (cl_c q7_1 (cl_c q7_2 (cl_c q7_3 (cl_c q7_4 (cl_c q7_5 (cl_c q7_6 (cl_c q7_7 (cl_n _))))))))⟩; have qF7 : Kn (FZ _ [⟨w.heap.size + 1 + 1, 0, none⟩, ⟨w.heap.size + 1 + 1, 1, none⟩, ⟨w.heap.size + 1 + 1, 2, none⟩, ⟨w.heap.size + 1 + 1, 3, none⟩]) := ⟨fz_c (World.block_lt_of_cell? _ _ q7_4) f7_0 (fz_c (World.block_lt_of_cell? _ _ q7_5) f7_1 (fz_c (World.block_lt_of_cell? _ _ q7_6) f7_2 (fz_c (World.block_lt_of_cell? _ _ q7_7) f7_3 (fz_n _))))⟩
    have HB_w10 := Aside0.mk hb
    clear hw hg hb
    have x7_4 := y0; have x7_5 := y1
    clear y0 y1
    have XN10 := Aside0.mk (XN9.out.below HB_w10.out)
    have XM10 := Aside0.mk (XM.out.below HB_w10.out)
    go_wp2
    have hN : (Rat.divInt x y).num = n := by rw [ratio_num HY.out, ← HZ3.out]; exact HN1.out
    have hM : ((Rat.divInt x y).den : Int) = m := by rw [ratio_den HY.out, ← HZ3.out]; exact HN2.out
    refine bodyPost_ret (v := .agg #[(.bool (decide (n < 0))), (.slice N (dig (Int.natAbs n)).length nc), (.bool (decide (m < 0))), (.slice M (dig (Int.natAbs m)).length mc)]) (by simp [results, Try.results55, go_sem, q7_4, q7_5, q7_6, q7_7]) rfl ⟨_, rfl, ⟨N, M, nc, mc, m, by rw [hN], ?_, ?_, .inl hM.symm⟩, ?_⟩
    · rw [hN]; exact ((((XN10.out.set' (p := ⟨w.heap.size + 1 + 1, 0, none⟩) (Nat.not_le.2 LW.out) _).set' (p := ⟨w.heap.size + 1 + 1, 1, none⟩) (Nat.not_le.2 LW.out) _).set' (p := ⟨w.heap.size + 1 + 1, 2, none⟩) (Nat.not_le.2 LW.out) _).set' (p := ⟨w.heap.size + 1 + 1, 3, none⟩) (Nat.not_le.2 LW.out) _).mono fun k hk => Nat.le_trans (Nat.le_of_lt (Nat.lt_of_le_of_lt (le_two _) LW.out)) hk
    · exact ((((XM10.out.set' (p := ⟨w.heap.size + 1 + 1, 0, none⟩) (Nat.not_le.2 LW8.out) _).set' (p := ⟨w.heap.size + 1 + 1, 1, none⟩) (Nat.not_le.2 LW8.out) _).set' (p := ⟨w.heap.size + 1 + 1, 2, none⟩) (Nat.not_le.2 LW8.out) _).set' (p := ⟨w.heap.size + 1 + 1, 3, none⟩) (Nat.not_le.2 LW8.out) _).mono fun k hk => Nat.le_trans (Nat.le_of_lt (Nat.lt_of_le_of_lt (le_two _) LW8.out)) hk
    · exact below_set (below_set (below_set (below_set qB7.out (le_two _)) (le_two _)) (le_two _)) (le_two _)
set_option maxHeartbeats 4000000 in
set_option maxRecDepth 100000 in
theorem ratio_zero (w : World) (P : Nat → Prop) (y : Int) (A D : Option Addr) (c d : Nat) (h0 : BI w P (arg 0 A c) 0) :
    Calls Try.prog 55 #[arg 0 A c, arg y D d] w fun e w' => ∃ v, e = .returned v ∧ BF w' (fun k => w.heap.size ≤ k) v 0 ∧ Below w.heap.size w w' := by
  have X0 := Aside0.mk h0
  obtain ⟨x, hx⟩ : ∃ x : Int, 0 = x := ⟨0, rfl⟩
  rw [hx] at X0
  have SX := Aside0.mk (show x.sign = 0 by rw [← hx]; rfl)
  rw [show arg 0 A c = arg x A c by rw [hx]]
  clear h0 hx
  go_enter Try.func55, Try.ntmps55
  go_wp2_with (go_at_call 69; (with_reducible refine (sign_is _ P _ x 0 (X0.out.below ?hb1) SX.out).mono ?_); (case hb1 => first | exact Kn.out | with_reducible exact Aside0.out ‹_›); rintro e w1 ⟨rfl, hb⟩; have qB0 := kn_b (w0 := w) hb; have qC0 : Kn (CL _ [⟨w.heap.size, 0, none⟩, ⟨w.heap.size, 1, none⟩, ⟨w.heap.size + 1, 0, none⟩, ⟨w.heap.size + 1, 1, none⟩, ⟨w.heap.size + 1 + 1, 0, none⟩, ⟨w.heap.size + 1 + 1, 1, none⟩, ⟨w.heap.size + 1 + 1, 2, none⟩, ⟨w.heap.size + 1 + 1, 3, none⟩] [.bool (decide (x < 0)), .slice A (dig x.natAbs).length c, .bool (decide (y < 0)), .slice D (dig y.natAbs).length d, .bool false, .slice none 0 0, .bool false, .slice none 0 0]) := kn_c hb; obtain ⟨q0_0, q0_1, q0_2, q0_3, q0_4, q0_5, q0_6, q0_7, -⟩ := qC0.out; have qF0 : Kn (FZ _ [⟨w.heap.size + 1 + 1, 0, none⟩, ⟨w.heap.size + 1 + 1, 1, none⟩, ⟨w.heap.size + 1 + 1, 2, none⟩, ⟨w.heap.size + 1 + 1, 3, none⟩]) := kn_f hb; obtain ⟨⟨-, f0_0⟩, ⟨-, f0_1⟩, ⟨-, f0_2⟩, ⟨-, f0_3⟩, -⟩ := qF0.out; clear hb)
  refine bodyPost_ret (v := .agg #[.bool false, .slice none 0 0, .bool false, .slice none 0 0]) (by simp [results, Try.results55, go_sem, q0_4, q0_5, q0_6, q0_7]) rfl ⟨_, rfl, BF.zero _ _, ?_⟩
  exact below_set (below_set (below_set (below_set qB0.out (le_two _)) (le_two _)) (le_two _)) (le_two _)
theorem ratio_any (w : World) (P : Nat → Prop) (u v : Value) (x y : Int) (h0 : BI w P u x) (h1 : BI w P v y) (hm : (dig x.natAbs).length ≤ 35184372088832) (hn : (dig y.natAbs).length ≤ 35184372088832) (hy : y ≠ 0) :
    Calls Try.prog 55 #[u, v] w fun e w' => ∃ v, e = .returned v ∧ BF w' (fun k => w.heap.size ≤ k) v (Rat.divInt x y) ∧ Below w.heap.size w w' := by
  have h0' := h0
  have h1' := h1
  obtain ⟨A, c, rfl, hc, hw, ho⟩ := h0
  obtain ⟨B, d, rfl, hd, hv, hp⟩ := h1
  by_cases hx : x = 0
  · subst hx
    rw [show Rat.divInt 0 y = 0 from Rat.zero_divInt y]
    exact ratio_zero w P y A B c d h0'
  · exact ratio_pos w P x y A B c d h0' h1' hm hn hy hx
end Go.Proofs.Ytlaidcoickeihaa.Nb
namespace Go.Proofs.Ytlaidcoickeihaa.Nb
open Go.RowKit Go.Proofs.Ytlaidcoickeihaa.Wd.PrintWords Go.Proofs.Ytlaidcoickeihaa.Wd.PrintLast Go.Proofs.Ytlaidcoickeihaa.Wd.PrintMore Go.Proofs.Ytlaidcoickeihaa.Big
set_option synthInstance.maxSize 2000
set_option synthInstance.maxHeartbeats 400000
theorem BF.low {w : World} {ok : Nat → Prop} {v : Value} {q : Rat} (h : BF w ok v q) : BF w (fun k => ok k ∧ k < w.heap.size) v q := by
  obtain ⟨A, B, c, d, dd, e, h1, h2, h3⟩ := h
  exact ⟨A, B, c, d, dd, e, h1.low, h2.low, h3⟩
def Fit (q : Rat) : Prop := (dig q.num.natAbs).length ≤ 8000000000000 ∧ (dig q.den).length ≤ 8000000000000
structure Parts (w : World) (ok : Nat → Prop) (q : Rat) (A B : Option Addr) (c d : Nat) (n dd : Int) : Prop where
  num : BI w ok (arg n A c) n
  den : BI w ok (arg dd B d) dd
  isnum : q.num = n
  isden : dd = q.den ∨ (n = 0 ∧ dd = 0)
theorem BF.parts {w : World} {ok : Nat → Prop} {v : Value} {q : Rat} (h : BF w ok v q) : ∃ A B c d n dd, v = .agg #[.bool (decide (n < 0)), .slice A (dig n.natAbs).length c, .bool (decide (dd < 0)), .slice B (dig dd.natAbs).length d] ∧ Parts w ok q A B c d n dd := by
  obtain ⟨A, B, c, d, dd, e, h1, h2, h3⟩ := h
  exact ⟨A, B, c, d, q.num, dd, e, h1, h2, rfl, h3⟩
theorem Parts.bf {w : World} {ok : Nat → Prop} {q : Rat} {A B : Option Addr} {c d : Nat} {n dd : Int} (h : Parts w ok q A B c d n dd) : BF w ok (.agg #[.bool (decide (n < 0)), .slice A (dig n.natAbs).length c, .bool (decide (dd < 0)), .slice B (dig dd.natAbs).length d]) q := by
  obtain ⟨h1, h2, rfl, h4⟩ := h
  exact ⟨A, B, c, d, dd, rfl, h1, h2, h4⟩
theorem Parts.set4 {w : World} {ok : Nat → Prop} {q : Rat} {A B : Option Addr} {c d : Nat} {n dd : Int} (h : Parts w ok q A B c d n dd) {g : Nat} (hg : ¬ ok g) (u0 u1 u2 u3 : Value) :
    Parts ((((w.setCell ⟨g, 0, none⟩ u0).setCell ⟨g, 1, none⟩ u1).setCell ⟨g, 2, none⟩ u2).setCell ⟨g, 3, none⟩ u3) ok q A B c d n dd := by
  obtain ⟨h1, h2, h3, h4⟩ := h
  exact ⟨(((h1.set' (p := ⟨g, 0, none⟩) hg _).set' (p := ⟨g, 1, none⟩) hg _).set' (p := ⟨g, 2, none⟩) hg _).set' (p := ⟨g, 3, none⟩) hg _, (((h2.set' (p := ⟨g, 0, none⟩) hg _).set' (p := ⟨g, 1, none⟩) hg _).set' (p := ⟨g, 2, none⟩) hg _).set' (p := ⟨g, 3, none⟩) hg _, h3, h4⟩
theorem below_set4 {w0 w : World} (h : Below w0.heap.size w0 w) {g : Nat} (hg : w0.heap.size ≤ g) (u0 u1 u2 u3 : Value) :
    Below w0.heap.size w0 ((((w.setCell ⟨g, 0, none⟩ u0).setCell ⟨g, 1, none⟩ u1).setCell ⟨g, 2, none⟩ u2).setCell ⟨g, 3, none⟩ u3) := below_set (below_set (below_set (below_set h hg) hg) hg) hg
theorem Parts.below {w w' : World} {ok : Nat → Prop} {q : Rat} {A B : Option Addr} {c d : Nat} {n dd : Int} (h : Parts w ok q A B c d n dd) (hb : Below w.heap.size w w') : Parts w' ok q A B c d n dd := ⟨h.num.below hb, h.den.below hb, h.isnum, h.isden⟩
theorem Parts.mono {w : World} {ok ok' : Nat → Prop} {q : Rat} {A B : Option Addr} {c d : Nat} {n dd : Int} (h : Parts w ok q A B c d n dd) (hk : ∀ k, ok k → ok' k) : Parts w ok' q A B c d n dd := ⟨h.num.mono hk, h.den.mono hk, h.isnum, h.isden⟩
theorem not_low {P : Nat → Prop} {n g : Nat} (h : n ≤ g) : ¬ (P g ∧ g < n) := fun k => by omega
set_option maxHeartbeats 4000000 in
set_option maxRecDepth 100000 in
theorem fsign_any (w : World) (P : Nat → Prop) (v : Value) (q : Rat) (s : Int) (h : BF w P v q) (hs : q.num.sign = s) :
    Calls Try.prog 54 #[v] w fun e w' => e = .returned (.int .i64 s) ∧ Below w.heap.size w w' := by
  obtain ⟨A, B, c, d, n, dd, rfl, hp⟩ := h.parts
  have HP := Aside0.mk hp
  have HS := Aside0.mk (show n.sign = s by rw [← hp.isnum]; exact hs)
  clear h hp hs
  go_enter Try.func54, Try.ntmps54
  go_wp2_with (go_at_call 69; refine (sign_is _ _ _ n s (HP.out.num.below (below_alloc (Below.refl _ _) _)) HS.out).mono ?_; rintro e w1 ⟨rfl, hb⟩; have HB := Aside0.mk (below_step (below_alloc (Below.refl w.heap.size w) _) hb); clear hb)
  exact bodyPost_ret (v := .int .i64 s) (by simp [results, Try.results54]) rfl ⟨rfl, HB.out⟩
set_option maxHeartbeats 4000000 in
set_option maxRecDepth 100000 in
theorem fneg_any (w : World) (P : Nat → Prop) (v : Value) (q : Rat) (h : BF w P v q) :
    Calls Try.prog 58 #[v] w fun e w' => ∃ u, e = .returned u ∧ BF w' (fun k => P k ∨ w.heap.size ≤ k) u (-q) ∧ Below w.heap.size w w' := by
  obtain ⟨A, D, c, d, n, dd, rfl, hp⟩ := h.low.parts
  have HP := Aside0.mk hp
  clear h hp
  go_enter Try.func58, Try.ntmps58
  go_wp2
  go_region_held3 (fun W => W.cell? ⟨w.heap.size, 0, none⟩ = some (.bool (decide (n < 0))) ∧ W.cell? ⟨w.heap.size, 1, none⟩ = some (.slice A (dig n.natAbs).length c) ∧ W.cell? ⟨w.heap.size, 2, none⟩ = some (.bool (decide (dd < 0))) ∧ W.cell? ⟨w.heap.size, 3, none⟩ = some (.slice D (dig dd.natAbs).length d) ∧ Kn (Below w.heap.size w W)) (((repeat' apply And.intro) <;> first | with_reducible assumption | exact Kn.out | infer_instance | ((try (with_reducible refine c_drew ?_)); (repeat' (first | with_reducible refine kset Kn.out ?_ | with_reducible refine kset ‹_› ?_ | with_reducible refine c_low' ?_)); with_reducible assumption))) ((first | (go_at_call 71; (with_reducible refine (neg_any _ _ _ n (HP.out.num.below ?hb1)).mono ?_); (case hb1 => first | exact Kn.out | with_reducible exact Aside0.out ‹_›); rintro e w1 ⟨v, rfl, hv, hb⟩; obtain ⟨n2, hz⟩ : ∃ z : Int, z = -n := ⟨_, rfl⟩; rw [← hz] at hv; have HZ := Aside0.mk hz; have XN := Aside0.mk hv; obtain ⟨A2, c2, rfl, -⟩ := hv; clear hz; have qB0 := kn_b (w0 := w) hb; have qC0 : Kn (CL _ [⟨w.heap.size, 0, none⟩, ⟨w.heap.size, 1, none⟩, ⟨w.heap.size, 2, none⟩, ⟨w.heap.size, 3, none⟩, ⟨w.heap.size + 1, 0, none⟩, ⟨w.heap.size + 1, 1, none⟩, ⟨w.heap.size + 1, 2, none⟩, ⟨w.heap.size + 1, 3, none⟩] [.bool (decide (n < 0)), .slice A (dig n.natAbs).length c, .bool (decide (dd < 0)), .slice D (dig dd.natAbs).length d, .bool false, .slice none 0 0, .bool false, .slice none 0 0]) := kn_c hb; obtain ⟨q0_0, q0_1, q0_2, q0_3, q0_4, q0_5, q0_6, q0_7, -⟩ := qC0.out; have qF0 : Kn (FZ _ [⟨w.heap.size + 1, 0, none⟩, ⟨w.heap.size + 1, 1, none⟩, ⟨w.heap.size + 1, 2, none⟩, ⟨w.heap.size + 1, 3, none⟩]) := kn_f hb; obtain ⟨⟨-, f0_0⟩, ⟨-, f0_1⟩, ⟨-, f0_2⟩, ⟨-, f0_3⟩, -⟩ := qF0.out; clear hb)))
  go_wp2
  have HPart : Parts w1 (fun k => P k ∧ k < w.heap.size) (-q) A2 D c2 d n2 dd := ⟨XN.out, HP.out.den.below qB0.out, by rw [HZ.out, ← HP.out.isnum]; rfl, by
    rcases HP.out.isden with e | ⟨e, e'⟩
    · exact .inl e
    · exact .inr ⟨by rw [HZ.out, e]; rfl, e'⟩⟩
  refine bodyPost_ret (v := .agg #[.bool (decide (n2 < 0)), .slice A2 (dig n2.natAbs).length c2, .bool (decide (dd < 0)), .slice D (dig dd.natAbs).length d]) (by simp [results, Try.results58, go_sem, q0_4, q0_5, q0_6, q0_7]) rfl ⟨_, rfl, ?_, below_set4 qB0.out (Nat.le_succ _) _ _ _ _⟩
  exact ((HPart.set4 (g := w.heap.size + 1) (not_low (Nat.le_succ _)) _ _ _ _).mono fun k hk => .inl hk.1).bf
theorem fadd_val (p q : Rat) : p + q = Rat.divInt (p.num * q.den + q.num * p.den) (p.den * q.den) := by
  conv => lhs; rw [← Rat.num_divInt_den p, ← Rat.num_divInt_den q]
  exact Rat.divInt_add_divInt _ _ (by have := p.den_nz; omega) (by have := q.den_nz; omega)
set_option maxHeartbeats 4000000 in
set_option maxRecDepth 100000 in
theorem fadd_l0 (w : World) (P : Nat → Prop) (u v : Value) (p q : Rat) (h0 : BF w P u p) (h1 : BF w P v q) (hz : p.num = 0) :
    Calls Try.prog 43 #[u, v] w fun e w' => ∃ u, e = .returned u ∧ BF w' (fun k => P k ∨ w.heap.size ≤ k) u (p + q) ∧ Below w.heap.size w w' := by
  have hpq : p + q = q := by rw [Rat.num_eq_zero.1 hz]; exact Rat.zero_add q
  obtain ⟨A, D, c, d, n, dd, rfl, hp⟩ := h0.low.parts
  obtain ⟨E, F, e1, f1, m, ee, rfl, hp2⟩ := h1.low.parts
  have HP := Aside0.mk hp
  have HQ := Aside0.mk hp2
  have SA := Aside0.mk (show p.num.sign = 0 by rw [hz]; rfl)
  rw [hpq]
  clear h0 h1 hp hp2 hz hpq
  go_enter Try.func43, Try.ntmps43
  go_wp2_with (go_at_call 54; (with_reducible refine (fsign_any _ _ _ p 0 (HP.out.bf.below ?hb1) SA.out).mono ?_); (case hb1 => first | exact Kn.out | with_reducible exact Aside0.out ‹_›); rintro e w1 ⟨rfl, hb⟩; have qB0 := kn_b (w0 := w) hb; have qC0 : Kn (CL _ [⟨w.heap.size, 0, none⟩, ⟨w.heap.size, 1, none⟩, ⟨w.heap.size, 2, none⟩, ⟨w.heap.size, 3, none⟩, ⟨w.heap.size + 1, 0, none⟩, ⟨w.heap.size + 1, 1, none⟩, ⟨w.heap.size + 1, 2, none⟩, ⟨w.heap.size + 1, 3, none⟩, ⟨w.heap.size + 1 + 1, 0, none⟩, ⟨w.heap.size + 1 + 1, 1, none⟩, ⟨w.heap.size + 1 + 1, 2, none⟩, ⟨w.heap.size + 1 + 1, 3, none⟩] [.bool (decide (n < 0)), .slice A (dig n.natAbs).length c, .bool (decide (dd < 0)), .slice D (dig dd.natAbs).length d, .bool (decide (m < 0)), .slice E (dig m.natAbs).length e1, .bool (decide (ee < 0)), .slice F (dig ee.natAbs).length f1, .bool false, .slice none 0 0, .bool false, .slice none 0 0]) := kn_c hb; obtain ⟨q0_0, q0_1, q0_2, q0_3, q0_4, q0_5, q0_6, q0_7, q0_8, q0_9, q0_10, q0_11, -⟩ := qC0.out; have qF0 : Kn (FZ _ [⟨w.heap.size + 1 + 1, 0, none⟩, ⟨w.heap.size + 1 + 1, 1, none⟩, ⟨w.heap.size + 1 + 1, 2, none⟩, ⟨w.heap.size + 1 + 1, 3, none⟩]) := kn_f hb; obtain ⟨⟨-, f0_0⟩, ⟨-, f0_1⟩, ⟨-, f0_2⟩, ⟨-, f0_3⟩, -⟩ := qF0.out; clear hb)
  refine bodyPost_ret (v := .agg #[.bool (decide (m < 0)), .slice E (dig m.natAbs).length e1, .bool (decide (ee < 0)), .slice F (dig ee.natAbs).length f1]) (by simp [results, Try.results43, go_sem, q0_8, q0_9, q0_10, q0_11]) rfl ⟨_, rfl, ?_, below_set4 qB0.out (le_two _) _ _ _ _⟩
  exact (((HQ.out.below qB0.out).set4 (g := w.heap.size + 1 + 1) (not_low (le_two _)) _ _ _ _).mono fun k hk => .inl hk.1).bf
set_option maxHeartbeats 4000000 in
set_option maxRecDepth 100000 in
theorem fadd_r0 (w : World) (P : Nat → Prop) (u v : Value) (p q : Rat) (h0 : BF w P u p) (h1 : BF w P v q) (hz : q.num = 0) (hx : p.num ≠ 0) :
    Calls Try.prog 43 #[u, v] w fun e w' => ∃ u, e = .returned u ∧ BF w' (fun k => P k ∨ w.heap.size ≤ k) u (p + q) ∧ Below w.heap.size w w' := by
  have hpq : p + q = p := by rw [Rat.num_eq_zero.1 hz]; exact Rat.add_zero p
  obtain ⟨A, D, c, d, n, dd, rfl, hp⟩ := h0.low.parts
  obtain ⟨E, F, e1, f1, m, ee, rfl, hp2⟩ := h1.low.parts
  have HP := Aside0.mk hp
  have HQ := Aside0.mk hp2
  obtain ⟨sa, hsa⟩ : ∃ s, p.num.sign = s := ⟨_, rfl⟩
  have SA := Aside0.mk hsa
  have hs1 : (sa == 0) = false := by rw [beq_eq_false_iff_ne, ← hsa, Ne, Int.sign_eq_zero_iff_zero]; exact hx
  have SB := Aside0.mk (show q.num.sign = 0 by rw [hz]; rfl)
  rw [hpq]
  clear h0 h1 hp hp2 hz hpq hx hsa
  go_enter Try.func43, Try.ntmps43
  go_wp2_with (first | (go_at_call 54; (with_reducible refine (fsign_any _ _ _ p sa (HP.out.bf.below ?hb1) SA.out).mono ?_); (case hb1 => first | exact Kn.out | with_reducible exact Aside0.out ‹_›); rintro e w1 ⟨rfl, hb⟩; have qB0 := kn_b (w0 := w) hb; have qC0 : Kn (CL _ [⟨w.heap.size, 0, none⟩, ⟨w.heap.size, 1, none⟩, ⟨w.heap.size, 2, none⟩, ⟨w.heap.size, 3, none⟩, ⟨w.heap.size + 1, 0, none⟩, ⟨w.heap.size + 1, 1, none⟩, ⟨w.heap.size + 1, 2, none⟩, ⟨w.heap.size + 1, 3, none⟩, ⟨w.heap.size + 1 + 1, 0, none⟩, ⟨w.heap.size + 1 + 1, 1, none⟩, ⟨w.heap.size + 1 + 1, 2, none⟩, ⟨w.heap.size + 1 + 1, 3, none⟩] [.bool (decide (n < 0)), .slice A (dig n.natAbs).length c, .bool (decide (dd < 0)), .slice D (dig dd.natAbs).length d, .bool (decide (m < 0)), .slice E (dig m.natAbs).length e1, .bool (decide (ee < 0)), .slice F (dig ee.natAbs).length f1, .bool false, .slice none 0 0, .bool false, .slice none 0 0]) := kn_c hb; obtain ⟨q0_0, q0_1, q0_2, q0_3, q0_4, q0_5, q0_6, q0_7, q0_8, q0_9, q0_10, q0_11, -⟩ := qC0.out; have qF0 : Kn (FZ _ [⟨w.heap.size + 1 + 1, 0, none⟩, ⟨w.heap.size + 1 + 1, 1, none⟩, ⟨w.heap.size + 1 + 1, 2, none⟩, ⟨w.heap.size + 1 + 1, 3, none⟩]) := kn_f hb; obtain ⟨⟨-, f0_0⟩, ⟨-, f0_1⟩, ⟨-, f0_2⟩, ⟨-, f0_3⟩, -⟩ := qF0.out; clear hb) | (go_at_call 54; (with_reducible refine (fsign_any _ _ _ q 0 (HQ.out.bf.below ?hb2) SB.out).mono ?_); (case hb2 => first | exact Kn.out | with_reducible exact Aside0.out ‹_›); rintro e w2 ⟨rfl, hb⟩; have qB1 := kn_b (w0 := w) hb; have qC1 : Kn (CL _ [⟨w.heap.size, 0, none⟩, ⟨w.heap.size, 1, none⟩, ⟨w.heap.size, 2, none⟩, ⟨w.heap.size, 3, none⟩, ⟨w.heap.size + 1, 0, none⟩, ⟨w.heap.size + 1, 1, none⟩, ⟨w.heap.size + 1, 2, none⟩, ⟨w.heap.size + 1, 3, none⟩, ⟨w.heap.size + 1 + 1, 0, none⟩, ⟨w.heap.size + 1 + 1, 1, none⟩, ⟨w.heap.size + 1 + 1, 2, none⟩, ⟨w.heap.size + 1 + 1, 3, none⟩] [.bool (decide (n < 0)), .slice A (dig n.natAbs).length c, .bool (decide (dd < 0)), .slice D (dig dd.natAbs).length d, .bool (decide (m < 0)), .slice E (dig m.natAbs).length e1, .bool (decide (ee < 0)), .slice F (dig ee.natAbs).length f1, .bool false, .slice none 0 0, .bool false, .slice none 0 0]) := kn_c hb; obtain ⟨q1_0, q1_1, q1_2, q1_3, q1_4, q1_5, q1_6, q1_7, q1_8, q1_9, q1_10, q1_11, -⟩ := qC1.out; have qF1 : Kn (FZ _ [⟨w.heap.size + 1 + 1, 0, none⟩, ⟨w.heap.size + 1 + 1, 1, none⟩, ⟨w.heap.size + 1 + 1, 2, none⟩, ⟨w.heap.size + 1 + 1, 3, none⟩]) := kn_f hb; obtain ⟨⟨-, f1_0⟩, ⟨-, f1_1⟩, ⟨-, f1_2⟩, ⟨-, f1_3⟩, -⟩ := qF1.out; clear hb))
  refine bodyPost_ret (v := .agg #[.bool (decide (n < 0)), .slice A (dig n.natAbs).length c, .bool (decide (dd < 0)), .slice D (dig dd.natAbs).length d]) (by simp [results, Try.results43, go_sem, q1_8, q1_9, q1_10, q1_11]) rfl ⟨_, rfl, ?_, below_set4 qB1.out (le_two _) _ _ _ _⟩
  exact (((HP.out.below qB1.out).set4 (g := w.heap.size + 1 + 1) (not_low (le_two _)) _ _ _ _).mono fun k hk => .inl hk.1).bf
end Go.Proofs.Ytlaidcoickeihaa.Nb
namespace Go.Proofs.Ytlaidcoickeihaa.Nb
open Go.RowKit Go.Proofs.Ytlaidcoickeihaa.Wd.PrintWords Go.Proofs.Ytlaidcoickeihaa.Wd.PrintLast Go.Proofs.Ytlaidcoickeihaa.Wd.PrintMore Go.Proofs.Ytlaidcoickeihaa.Big
set_option synthInstance.maxSize 2000
set_option synthInstance.maxHeartbeats 400000
theorem dig_mul_len (a b : Nat) : (dig (a * b)).length ≤ (dig a).length + (dig b).length := by
  refine dig_len_le ?_
  rw [Nat.pow_add]
  exact Nat.mul_lt_mul'' (dig_lt a) (dig_lt b)
theorem dig_add_len (a b k : Nat) (ha : (dig a).length ≤ k) (hb : (dig b).length ≤ k) : (dig (a + b)).length ≤ k + 1 := by
  refine dig_len_le ?_
  have h1 := Nat.lt_of_lt_of_le (dig_lt a) (Nat.pow_le_pow_right (by decide) ha)
  have h2 := Nat.lt_of_lt_of_le (dig_lt b) (Nat.pow_le_pow_right (by decide) hb)
  rw [Nat.pow_succ]
  omega
theorem imul_len (x y : Int) (k l : Nat) (hx : (dig x.natAbs).length ≤ k) (hy : (dig y.natAbs).length ≤ l) : (dig (x * y).natAbs).length ≤ k + l := by
  rw [Int.natAbs_mul]
  have := dig_mul_len x.natAbs y.natAbs
  omega
theorem iadd_len (x y : Int) (k : Nat) (hx : (dig x.natAbs).length ≤ k) (hy : (dig y.natAbs).length ≤ k) : (dig (x + y).natAbs).length ≤ k + 1 :=
  Nat.le_trans (dig_len_mono (Int.natAbs_add_le x y)) (dig_add_len _ _ k hx hy)
theorem Parts.fit {w : World} {ok : Nat → Prop} {q : Rat} {A B : Option Addr} {c d : Nat} {n dd : Int} (h : Parts w ok q A B c d n dd) (hf : Fit q) : (dig n.natAbs).length ≤ 8000000000000 ∧ (dig dd.natAbs).length ≤ 8000000000000 := by
  obtain ⟨h1, h2, rfl, h4⟩ := h
  refine ⟨hf.1, ?_⟩
  rcases h4 with rfl | ⟨_, rfl⟩
  · rw [Int.natAbs_natCast]; exact hf.2
  · rw [show (0 : Int).natAbs = 0 from rfl, dig_zero]; exact Nat.zero_le _
theorem Parts.den_is {w : World} {ok : Nat → Prop} {q : Rat} {A B : Option Addr} {c d : Nat} {n dd : Int} (h : Parts w ok q A B c d n dd) (hq : q.num ≠ 0) : dd = q.den := by
  rcases h.isden with e | ⟨e, _⟩
  · exact e
  · exact absurd (h.isnum.trans e) hq
set_option maxHeartbeats 4000000 in
set_option maxRecDepth 100000 in
theorem fadd_pos (w : World) (P : Nat → Prop) (u v : Value) (p q : Rat) (h0 : BF w P u p) (h1 : BF w P v q) (hp0 : p.num ≠ 0) (hq0 : q.num ≠ 0) (hfp : Fit p) (hfq : Fit q) :
    Calls Try.prog 43 #[u, v] w fun e w' => ∃ u, e = .returned u ∧ BF w' (fun k => P k ∨ w.heap.size ≤ k) u (p + q) ∧ Below w.heap.size w w' := by
  obtain ⟨A, D, c, d, n, dd, rfl, hp⟩ := h0.low.parts
  obtain ⟨E, F, e1, f1, m, ee, rfl, hp2⟩ := h1.low.parts
  have HP := Aside0.mk hp
  have HQ := Aside0.mk hp2
  have hpq := fadd_val p q
  rw [← hp.den_is hp0, ← hp2.den_is hq0, hp.isnum, hp2.isnum] at hpq
  have HPQ := Aside0.mk hpq
  have HD1 := Aside0.mk (hp.den_is hp0)
  have HD2 := Aside0.mk (hp2.den_is hq0)
  have FP := Aside0.mk (hp.fit hfp)
  have FQ := Aside0.mk (hp2.fit hfq)
  obtain ⟨sa, hsa⟩ : ∃ s, p.num.sign = s := ⟨_, rfl⟩
  obtain ⟨sb, hsb⟩ : ∃ s, q.num.sign = s := ⟨_, rfl⟩
  have hs1 : (sa == 0) = false := by rw [beq_eq_false_iff_ne, ← hsa, Ne, Int.sign_eq_zero_iff_zero]; exact hp0
  have hs2 : (sb == 0) = false := by rw [beq_eq_false_iff_ne, ← hsb, Ne, Int.sign_eq_zero_iff_zero]; exact hq0
  have SA := Aside0.mk hsa
  have SB := Aside0.mk hsb
  clear h0 h1 hp hp2 hp0 hq0 hsa hsb hpq hfp hfq
  have L1 : ∀ {x y : Int}, (dig x.natAbs).length ≤ 8000000000000 → (dig y.natAbs).length ≤ 8000000000000 → (dig (x * y).natAbs).length ≤ 16000000000000 := fun hx hy => imul_len _ _ _ _ hx hy
  have LL := Aside0.mk (fun (k : Nat) (h : k ≤ 8000000000000) => (by omega : k ≤ 35184372088832))
  clear L1
  go_enter Try.func43, Try.ntmps43
  go_upto_region 5 with (first | (go_at_call 54; (with_reducible refine (fsign_any _ _ _ p sa (HP.out.bf.below ?hb1) SA.out).mono ?_); (case hb1 => first | exact Kn.out | with_reducible exact Aside0.out ‹_›); rintro e w1 ⟨rfl, hb⟩; have qB0 := kn_b (w0 := w) hb; have qC0 : Kn (CL _ [⟨w.heap.size, 0, none⟩, ⟨w.heap.size, 1, none⟩, ⟨w.heap.size, 2, none⟩, ⟨w.heap.size, 3, none⟩, ⟨w.heap.size + 1, 0, none⟩, ⟨w.heap.size + 1, 1, none⟩, ⟨w.heap.size + 1, 2, none⟩, ⟨w.heap.size + 1, 3, none⟩, ⟨w.heap.size + 1 + 1, 0, none⟩, ⟨w.heap.size + 1 + 1, 1, none⟩, ⟨w.heap.size + 1 + 1, 2, none⟩, ⟨w.heap.size + 1 + 1, 3, none⟩] [.bool (decide (n < 0)), .slice A (dig n.natAbs).length c, .bool (decide (dd < 0)), .slice D (dig dd.natAbs).length d, .bool (decide (m < 0)), .slice E (dig m.natAbs).length e1, .bool (decide (ee < 0)), .slice F (dig ee.natAbs).length f1, .bool false, .slice none 0 0, .bool false, .slice none 0 0]) := kn_c hb; obtain ⟨q0_0, q0_1, q0_2, q0_3, q0_4, q0_5, q0_6, q0_7, q0_8, q0_9, q0_10, q0_11, -⟩ := qC0.out; have qF0 : Kn (FZ _ [⟨w.heap.size + 1 + 1, 0, none⟩, ⟨w.heap.size + 1 + 1, 1, none⟩, ⟨w.heap.size + 1 + 1, 2, none⟩, ⟨w.heap.size + 1 + 1, 3, none⟩]) := kn_f hb; obtain ⟨⟨-, f0_0⟩, ⟨-, f0_1⟩, ⟨-, f0_2⟩, ⟨-, f0_3⟩, -⟩ := qF0.out; clear hb) | (go_at_call 54; (with_reducible refine (fsign_any _ _ _ q sb (HQ.out.bf.below ?hb2) SB.out).mono ?_); (case hb2 => first | exact Kn.out | with_reducible exact Aside0.out ‹_›); rintro e w2 ⟨rfl, hb⟩; have qB1 := kn_b (w0 := w) hb; have qC1 : Kn (CL _ [⟨w.heap.size, 0, none⟩, ⟨w.heap.size, 1, none⟩, ⟨w.heap.size, 2, none⟩, ⟨w.heap.size, 3, none⟩, ⟨w.heap.size + 1, 0, none⟩, ⟨w.heap.size + 1, 1, none⟩, ⟨w.heap.size + 1, 2, none⟩, ⟨w.heap.size + 1, 3, none⟩, ⟨w.heap.size + 1 + 1, 0, none⟩, ⟨w.heap.size + 1 + 1, 1, none⟩, ⟨w.heap.size + 1 + 1, 2, none⟩, ⟨w.heap.size + 1 + 1, 3, none⟩] [.bool (decide (n < 0)), .slice A (dig n.natAbs).length c, .bool (decide (dd < 0)), .slice D (dig dd.natAbs).length d, .bool (decide (m < 0)), .slice E (dig m.natAbs).length e1, .bool (decide (ee < 0)), .slice F (dig ee.natAbs).length f1, .bool false, .slice none 0 0, .bool false, .slice none 0 0]) := kn_c hb; obtain ⟨q1_0, q1_1, q1_2, q1_3, q1_4, q1_5, q1_6, q1_7, q1_8, q1_9, q1_10, q1_11, -⟩ := qC1.out; have qF1 : Kn (FZ _ [⟨w.heap.size + 1 + 1, 0, none⟩, ⟨w.heap.size + 1 + 1, 1, none⟩, ⟨w.heap.size + 1 + 1, 2, none⟩, ⟨w.heap.size + 1 + 1, 3, none⟩]) := kn_f hb; obtain ⟨⟨-, f1_0⟩, ⟨-, f1_1⟩, ⟨-, f1_2⟩, ⟨-, f1_3⟩, -⟩ := qF1.out; clear hb))
  go_region_held3 (fun W => W.cell? ⟨w.heap.size, 0, none⟩ = some (.bool (decide (n < 0))) ∧ W.cell? ⟨w.heap.size, 1, none⟩ = some (.slice A (dig n.natAbs).length c) ∧ W.cell? ⟨w.heap.size, 2, none⟩ = some (.bool (decide (dd < 0))) ∧ W.cell? ⟨w.heap.size, 3, none⟩ = some (.slice D (dig dd.natAbs).length d) ∧ W.cell? ⟨w.heap.size + 1, 0, none⟩ = some (.bool (decide (m < 0))) ∧ W.cell? ⟨w.heap.size + 1, 1, none⟩ = some (.slice E (dig m.natAbs).length e1) ∧ W.cell? ⟨w.heap.size + 1, 2, none⟩ = some (.bool (decide (ee < 0))) ∧ W.cell? ⟨w.heap.size + 1, 3, none⟩ = some (.slice F (dig ee.natAbs).length f1) ∧ Kn (Below w.heap.size w W)) (((repeat' apply And.intro) <;> first | with_reducible assumption | exact Kn.out | infer_instance | ((try (with_reducible refine c_drew ?_)); (repeat' (first | with_reducible refine kset Kn.out ?_ | with_reducible refine kset ‹_› ?_ | with_reducible refine c_low' ?_)); with_reducible assumption))) ((first | (go_at_call 56; (with_reducible refine (mul_bi _ _ _ _ _ n ee (HP.out.num.below ?hb3) (HQ.out.den.below ?hb3) (LL.out _ FP.out.1) (LL.out _ FQ.out.2)).mono ?_); (try (case hb3 => first | exact Kn.out | with_reducible exact Aside0.out ‹_›)); rintro e w3 ⟨v, rfl, hv, hb⟩; obtain ⟨t1, hz⟩ : ∃ z : Int, z = n * ee := ⟨_, rfl⟩; rw [← hz] at hv; have Ht1 := Aside0.mk hz; have Xt1 := Aside0.mk hv; clear hz; have qB2 := kn_b (w0 := w) hb; have qC2 : Kn (CL _ [⟨w.heap.size, 0, none⟩, ⟨w.heap.size, 1, none⟩, ⟨w.heap.size, 2, none⟩, ⟨w.heap.size, 3, none⟩, ⟨w.heap.size + 1, 0, none⟩, ⟨w.heap.size + 1, 1, none⟩, ⟨w.heap.size + 1, 2, none⟩, ⟨w.heap.size + 1, 3, none⟩, ⟨w.heap.size + 1 + 1, 0, none⟩, ⟨w.heap.size + 1 + 1, 1, none⟩, ⟨w.heap.size + 1 + 1, 2, none⟩, ⟨w.heap.size + 1 + 1, 3, none⟩] [.bool (decide (n < 0)), .slice A (dig n.natAbs).length c, .bool (decide (dd < 0)), .slice D (dig dd.natAbs).length d, .bool (decide (m < 0)), .slice E (dig m.natAbs).length e1, .bool (decide (ee < 0)), .slice F (dig ee.natAbs).length f1, .bool false, .slice none 0 0, .bool false, .slice none 0 0]) := kn_c hb; obtain ⟨q2_0, q2_1, q2_2, q2_3, q2_4, q2_5, q2_6, q2_7, q2_8, q2_9, q2_10, q2_11, -⟩ := qC2.out; have qF2 : Kn (FZ _ [⟨w.heap.size + 1 + 1, 0, none⟩, ⟨w.heap.size + 1 + 1, 1, none⟩, ⟨w.heap.size + 1 + 1, 2, none⟩, ⟨w.heap.size + 1 + 1, 3, none⟩]) := kn_f hb; obtain ⟨⟨-, f2_0⟩, ⟨-, f2_1⟩, ⟨-, f2_2⟩, ⟨-, f2_3⟩, -⟩ := qF2.out; clear hb) | (go_at_call 56; (with_reducible refine (mul_bi _ _ _ _ _ m dd (HQ.out.num.below ?hb4) (HP.out.den.below ?hb4) (LL.out _ FQ.out.1) (LL.out _ FP.out.2)).mono ?_); (try (case hb4 => first | exact Kn.out | with_reducible exact Aside0.out ‹_›)); rintro e w4 ⟨v, rfl, hv, hb⟩; obtain ⟨t2, hz⟩ : ∃ z : Int, z = m * dd := ⟨_, rfl⟩; rw [← hz] at hv; have Ht2 := Aside0.mk hz; have Xt2 := Aside0.mk hv; clear hz; have Xt1 := Aside0.mk (Xt1.out.below hb); have qB3 := kn_b (w0 := w) hb; have qC3 : Kn (CL _ [⟨w.heap.size, 0, none⟩, ⟨w.heap.size, 1, none⟩, ⟨w.heap.size, 2, none⟩, ⟨w.heap.size, 3, none⟩, ⟨w.heap.size + 1, 0, none⟩, ⟨w.heap.size + 1, 1, none⟩, ⟨w.heap.size + 1, 2, none⟩, ⟨w.heap.size + 1, 3, none⟩, ⟨w.heap.size + 1 + 1, 0, none⟩, ⟨w.heap.size + 1 + 1, 1, none⟩, ⟨w.heap.size + 1 + 1, 2, none⟩, ⟨w.heap.size + 1 + 1, 3, none⟩] [.bool (decide (n < 0)), .slice A (dig n.natAbs).length c, .bool (decide (dd < 0)), .slice D (dig dd.natAbs).length d, .bool (decide (m < 0)), .slice E (dig m.natAbs).length e1, .bool (decide (ee < 0)), .slice F (dig ee.natAbs).length f1, .bool false, .slice none 0 0, .bool false, .slice none 0 0]) := kn_c hb; obtain ⟨q3_0, q3_1, q3_2, q3_3, q3_4, q3_5, q3_6, q3_7, q3_8, q3_9, q3_10, q3_11, -⟩ := qC3.out; have qF3 : Kn (FZ _ [⟨w.heap.size + 1 + 1, 0, none⟩, ⟨w.heap.size + 1 + 1, 1, none⟩, ⟨w.heap.size + 1 + 1, 2, none⟩, ⟨w.heap.size + 1 + 1, 3, none⟩]) := kn_f hb; obtain ⟨⟨-, f3_0⟩, ⟨-, f3_1⟩, ⟨-, f3_2⟩, ⟨-, f3_3⟩, -⟩ := qF3.out; clear hb) | (go_at_call 57; (with_reducible refine (add_bi _ _ _ _ _ t1 t2 (Xt1.out) (Xt2.out) (by have := Ht1.out; have := imul_len n ee _ _ FP.out.1 FQ.out.2; rw [Ht1.out]; omega) (by have := imul_len m dd _ _ FQ.out.1 FP.out.2; rw [Ht2.out]; omega)).mono ?_); (try (case hb5 => first | exact Kn.out | with_reducible exact Aside0.out ‹_›)); rintro e w5 ⟨v, rfl, hv, hb⟩; obtain ⟨t3, hz⟩ : ∃ z : Int, z = t1 + t2 := ⟨_, rfl⟩; rw [← hz] at hv; have Ht3 := Aside0.mk hz; have Xt3 := Aside0.mk hv; clear hz; have qB4 := kn_b (w0 := w) hb; have qC4 : Kn (CL _ [⟨w.heap.size, 0, none⟩, ⟨w.heap.size, 1, none⟩, ⟨w.heap.size, 2, none⟩, ⟨w.heap.size, 3, none⟩, ⟨w.heap.size + 1, 0, none⟩, ⟨w.heap.size + 1, 1, none⟩, ⟨w.heap.size + 1, 2, none⟩, ⟨w.heap.size + 1, 3, none⟩, ⟨w.heap.size + 1 + 1, 0, none⟩, ⟨w.heap.size + 1 + 1, 1, none⟩, ⟨w.heap.size + 1 + 1, 2, none⟩, ⟨w.heap.size + 1 + 1, 3, none⟩] [.bool (decide (n < 0)), .slice A (dig n.natAbs).length c, .bool (decide (dd < 0)), .slice D (dig dd.natAbs).length d, .bool (decide (m < 0)), .slice E (dig m.natAbs).length e1, .bool (decide (ee < 0)), .slice F (dig ee.natAbs).length f1, .bool false, .slice none 0 0, .bool false, .slice none 0 0]) := kn_c hb; obtain ⟨q4_0, q4_1, q4_2, q4_3, q4_4, q4_5, q4_6, q4_7, q4_8, q4_9, q4_10, q4_11, -⟩ := qC4.out; have qF4 : Kn (FZ _ [⟨w.heap.size + 1 + 1, 0, none⟩, ⟨w.heap.size + 1 + 1, 1, none⟩, ⟨w.heap.size + 1 + 1, 2, none⟩, ⟨w.heap.size + 1 + 1, 3, none⟩]) := kn_f hb; obtain ⟨⟨-, f4_0⟩, ⟨-, f4_1⟩, ⟨-, f4_2⟩, ⟨-, f4_3⟩, -⟩ := qF4.out; clear hb) | (go_at_call 56; (with_reducible refine (mul_bi _ _ _ _ _ dd ee (HP.out.den.below ?hb6) (HQ.out.den.below ?hb6) (LL.out _ FP.out.2) (LL.out _ FQ.out.2)).mono ?_); (try (case hb6 => first | exact Kn.out | with_reducible exact Aside0.out ‹_›)); rintro e w6 ⟨v, rfl, hv, hb⟩; obtain ⟨t4, hz⟩ : ∃ z : Int, z = dd * ee := ⟨_, rfl⟩; rw [← hz] at hv; have Ht4 := Aside0.mk hz; have Xt4 := Aside0.mk hv; clear hz; have Xt3 := Aside0.mk (Xt3.out.below hb); have qB5 := kn_b (w0 := w) hb; have qC5 : Kn (CL _ [⟨w.heap.size, 0, none⟩, ⟨w.heap.size, 1, none⟩, ⟨w.heap.size, 2, none⟩, ⟨w.heap.size, 3, none⟩, ⟨w.heap.size + 1, 0, none⟩, ⟨w.heap.size + 1, 1, none⟩, ⟨w.heap.size + 1, 2, none⟩, ⟨w.heap.size + 1, 3, none⟩, ⟨w.heap.size + 1 + 1, 0, none⟩, ⟨w.heap.size + 1 + 1, 1, none⟩, ⟨w.heap.size + 1 + 1, 2, none⟩, ⟨w.heap.size + 1 + 1, 3, none⟩] [.bool (decide (n < 0)), .slice A (dig n.natAbs).length c, .bool (decide (dd < 0)), .slice D (dig dd.natAbs).length d, .bool (decide (m < 0)), .slice E (dig m.natAbs).length e1, .bool (decide (ee < 0)), .slice F (dig ee.natAbs).length f1, .bool false, .slice none 0 0, .bool false, .slice none 0 0]) := kn_c hb; obtain ⟨q5_0, q5_1, q5_2, q5_3, q5_4, q5_5, q5_6, q5_7, q5_8, q5_9, q5_10, q5_11, -⟩ := qC5.out; have qF5 : Kn (FZ _ [⟨w.heap.size + 1 + 1, 0, none⟩, ⟨w.heap.size + 1 + 1, 1, none⟩, ⟨w.heap.size + 1 + 1, 2, none⟩, ⟨w.heap.size + 1 + 1, 3, none⟩]) := kn_f hb; obtain ⟨⟨-, f5_0⟩, ⟨-, f5_1⟩, ⟨-, f5_2⟩, ⟨-, f5_3⟩, -⟩ := qF5.out; clear hb) | (go_at_call 55; (with_reducible refine (ratio_any _ (fun _ => True) _ _ t3 t4 ((Xt3.out.mono fun _ _ => trivial)) ((Xt4.out.mono fun _ _ => trivial)) (by have h1 := imul_len n ee _ _ FP.out.1 FQ.out.2; have h2 := imul_len m dd _ _ FQ.out.1 FP.out.2; rw [← Ht1.out] at h1; rw [← Ht2.out] at h2; have h3 := iadd_len t1 t2 _ h1 h2; rw [Ht3.out]; omega) (by have := imul_len dd ee _ _ FP.out.2 FQ.out.2; rw [Ht4.out]; omega) (by rw [Ht4.out, HD1.out, HD2.out]; exact Int.mul_ne_zero (by have := p.den_nz; omega) (by have := q.den_nz; omega))).mono ?_); rintro e w7 ⟨v, rfl, hv, hb⟩; obtain ⟨r, hz⟩ : ∃ z : Rat, z = Rat.divInt t3 t4 := ⟨_, rfl⟩; rw [← hz] at hv; have Hr := Aside0.mk hz; obtain ⟨G, I, g1, i1, rn, rd, rfl, hr⟩ := hv.parts; have XR := Aside0.mk hr; clear hz hv hr; have qB6 := kn_b (w0 := w) hb; have qC6 : Kn (CL _ [⟨w.heap.size, 0, none⟩, ⟨w.heap.size, 1, none⟩, ⟨w.heap.size, 2, none⟩, ⟨w.heap.size, 3, none⟩, ⟨w.heap.size + 1, 0, none⟩, ⟨w.heap.size + 1, 1, none⟩, ⟨w.heap.size + 1, 2, none⟩, ⟨w.heap.size + 1, 3, none⟩, ⟨w.heap.size + 1 + 1, 0, none⟩, ⟨w.heap.size + 1 + 1, 1, none⟩, ⟨w.heap.size + 1 + 1, 2, none⟩, ⟨w.heap.size + 1 + 1, 3, none⟩] [.bool (decide (n < 0)), .slice A (dig n.natAbs).length c, .bool (decide (dd < 0)), .slice D (dig dd.natAbs).length d, .bool (decide (m < 0)), .slice E (dig m.natAbs).length e1, .bool (decide (ee < 0)), .slice F (dig ee.natAbs).length f1, .bool false, .slice none 0 0, .bool false, .slice none 0 0]) := kn_c hb; obtain ⟨q6_0, q6_1, q6_2, q6_3, q6_4, q6_5, q6_6, q6_7, q6_8, q6_9, q6_10, q6_11, -⟩ := qC6.out; have qF6 : Kn (FZ _ [⟨w.heap.size + 1 + 1, 0, none⟩, ⟨w.heap.size + 1 + 1, 1, none⟩, ⟨w.heap.size + 1 + 1, 2, none⟩, ⟨w.heap.size + 1 + 1, 3, none⟩]) := kn_f hb; obtain ⟨⟨-, f6_0⟩, ⟨-, f6_1⟩, ⟨-, f6_2⟩, ⟨-, f6_3⟩, -⟩ := qF6.out; clear hb)))
  go_wp2
  have hr : r = p + q := by rw [Hr.out, HPQ.out, Ht3.out, Ht1.out, Ht2.out, Ht4.out]
  have hsz := World.block_lt_of_cell? _ _ q5_11
  rw [← hr]
  refine bodyPost_ret (v := .agg #[.bool (decide (rn < 0)), .slice G (dig rn.natAbs).length g1, .bool (decide (rd < 0)), .slice I (dig rd.natAbs).length i1]) (by simp [results, Try.results43, go_sem, q6_8, q6_9, q6_10, q6_11]) rfl ⟨_, rfl, ?_, below_set4 qB6.out (le_two _) _ _ _ _⟩
  exact ((XR.out.set4 (g := w.heap.size + 1 + 1) (Nat.not_le.2 hsz) _ _ _ _).mono fun k hk => .inr (Nat.le_trans (Nat.le_of_lt (Nat.lt_of_le_of_lt (le_two _) hsz)) hk)).bf
theorem fadd_any (w : World) (P : Nat → Prop) (u v : Value) (p q : Rat) (h0 : BF w P u p) (h1 : BF w P v q) (hfp : Fit p) (hfq : Fit q) :
    Calls Try.prog 43 #[u, v] w fun e w' => ∃ u, e = .returned u ∧ BF w' (fun k => P k ∨ w.heap.size ≤ k) u (p + q) ∧ Below w.heap.size w w' := by
  by_cases hp : p.num = 0
  · exact fadd_l0 w P u v p q h0 h1 hp
  · by_cases hq : q.num = 0
    · exact fadd_r0 w P u v p q h0 h1 hq hp
    · exact fadd_pos w P u v p q h0 h1 hp hq hfp hfq
theorem fmul_val (p q : Rat) : p * q = Rat.divInt (p.num * q.num) (p.den * q.den) := by
  conv => lhs; rw [← Rat.num_divInt_den p, ← Rat.num_divInt_den q]
  exact Rat.divInt_mul_divInt _ _
set_option maxHeartbeats 4000000 in
set_option maxRecDepth 100000 in
theorem fmul_l0 (w : World) (P : Nat → Prop) (u v : Value) (p q : Rat) (h0 : BF w P u p) (h1 : BF w P v q) (hz : p.num = 0) :
    Calls Try.prog 45 #[u, v] w fun e w' => ∃ u, e = .returned u ∧ BF w' (fun k => w.heap.size ≤ k) u (p * q) ∧ Below w.heap.size w w' := by
  have hpq : p * q = 0 := by rw [Rat.num_eq_zero.1 hz]; exact Rat.zero_mul q
  obtain ⟨A, D, c, d, n, dd, rfl, hp⟩ := h0.low.parts
  obtain ⟨E, F, e1, f1, m, ee, rfl, hp2⟩ := h1.low.parts
  have HP := Aside0.mk hp
  have HQ := Aside0.mk hp2
  have SA := Aside0.mk (show p.num.sign = 0 by rw [hz]; rfl)
  rw [hpq]
  clear h0 h1 hp hp2 hz hpq
  go_enter Try.func45, Try.ntmps45
  go_wp2_with (go_at_call 54; (with_reducible refine (fsign_any _ _ _ p 0 (HP.out.bf.below ?hb1) SA.out).mono ?_); (case hb1 => first | exact Kn.out | with_reducible exact Aside0.out ‹_›); rintro e w1 ⟨rfl, hb⟩; have qB0 := kn_b (w0 := w) hb; have qC0 : Kn (CL _ [⟨w.heap.size, 0, none⟩, ⟨w.heap.size, 1, none⟩, ⟨w.heap.size, 2, none⟩, ⟨w.heap.size, 3, none⟩, ⟨w.heap.size + 1, 0, none⟩, ⟨w.heap.size + 1, 1, none⟩, ⟨w.heap.size + 1, 2, none⟩, ⟨w.heap.size + 1, 3, none⟩, ⟨w.heap.size + 1 + 1, 0, none⟩, ⟨w.heap.size + 1 + 1, 1, none⟩, ⟨w.heap.size + 1 + 1, 2, none⟩, ⟨w.heap.size + 1 + 1, 3, none⟩] [.bool (decide (n < 0)), .slice A (dig n.natAbs).length c, .bool (decide (dd < 0)), .slice D (dig dd.natAbs).length d, .bool (decide (m < 0)), .slice E (dig m.natAbs).length e1, .bool (decide (ee < 0)), .slice F (dig ee.natAbs).length f1, .bool false, .slice none 0 0, .bool false, .slice none 0 0]) := kn_c hb; obtain ⟨q0_0, q0_1, q0_2, q0_3, q0_4, q0_5, q0_6, q0_7, q0_8, q0_9, q0_10, q0_11, -⟩ := qC0.out; have qF0 : Kn (FZ _ [⟨w.heap.size + 1 + 1, 0, none⟩, ⟨w.heap.size + 1 + 1, 1, none⟩, ⟨w.heap.size + 1 + 1, 2, none⟩, ⟨w.heap.size + 1 + 1, 3, none⟩]) := kn_f hb; obtain ⟨⟨-, f0_0⟩, ⟨-, f0_1⟩, ⟨-, f0_2⟩, ⟨-, f0_3⟩, -⟩ := qF0.out; clear hb)
  refine bodyPost_ret (v := .agg #[.bool false, .slice none 0 0, .bool false, .slice none 0 0]) (by simp [results, Try.results45, go_sem, q0_8, q0_9, q0_10, q0_11]) rfl ⟨_, rfl, BF.zero _ _, below_set4 qB0.out (le_two _) _ _ _ _⟩
set_option maxHeartbeats 4000000 in
set_option maxRecDepth 100000 in
theorem fmul_r0 (w : World) (P : Nat → Prop) (u v : Value) (p q : Rat) (h0 : BF w P u p) (h1 : BF w P v q) (hz : q.num = 0) (hx : p.num ≠ 0) :
    Calls Try.prog 45 #[u, v] w fun e w' => ∃ u, e = .returned u ∧ BF w' (fun k => w.heap.size ≤ k) u (p * q) ∧ Below w.heap.size w w' := by
  have hpq : p * q = 0 := by rw [Rat.num_eq_zero.1 hz]; exact Rat.mul_zero p
  obtain ⟨A, D, c, d, n, dd, rfl, hp⟩ := h0.low.parts
  obtain ⟨E, F, e1, f1, m, ee, rfl, hp2⟩ := h1.low.parts
  have HP := Aside0.mk hp
  have HQ := Aside0.mk hp2
  obtain ⟨sa, hsa⟩ : ∃ s, p.num.sign = s := ⟨_, rfl⟩
  have SA := Aside0.mk hsa
  have hs1 : (sa == 0) = false := by rw [beq_eq_false_iff_ne, ← hsa, Ne, Int.sign_eq_zero_iff_zero]; exact hx
  have SB := Aside0.mk (show q.num.sign = 0 by rw [hz]; rfl)
  rw [hpq]
  clear h0 h1 hp hp2 hz hpq hx hsa
  go_enter Try.func45, Try.ntmps45
  go_wp2_with (first | (go_at_call 54; (with_reducible refine (fsign_any _ _ _ p sa (HP.out.bf.below ?hb1) SA.out).mono ?_); (case hb1 => first | exact Kn.out | with_reducible exact Aside0.out ‹_›); rintro e w1 ⟨rfl, hb⟩; have qB0 := kn_b (w0 := w) hb; have qC0 : Kn (CL _ [⟨w.heap.size, 0, none⟩, ⟨w.heap.size, 1, none⟩, ⟨w.heap.size, 2, none⟩, ⟨w.heap.size, 3, none⟩, ⟨w.heap.size + 1, 0, none⟩, ⟨w.heap.size + 1, 1, none⟩, ⟨w.heap.size + 1, 2, none⟩, ⟨w.heap.size + 1, 3, none⟩, ⟨w.heap.size + 1 + 1, 0, none⟩, ⟨w.heap.size + 1 + 1, 1, none⟩, ⟨w.heap.size + 1 + 1, 2, none⟩, ⟨w.heap.size + 1 + 1, 3, none⟩] [.bool (decide (n < 0)), .slice A (dig n.natAbs).length c, .bool (decide (dd < 0)), .slice D (dig dd.natAbs).length d, .bool (decide (m < 0)), .slice E (dig m.natAbs).length e1, .bool (decide (ee < 0)), .slice F (dig ee.natAbs).length f1, .bool false, .slice none 0 0, .bool false, .slice none 0 0]) := kn_c hb; obtain ⟨q0_0, q0_1, q0_2, q0_3, q0_4, q0_5, q0_6, q0_7, q0_8, q0_9, q0_10, q0_11, -⟩ := qC0.out; have qF0 : Kn (FZ _ [⟨w.heap.size + 1 + 1, 0, none⟩, ⟨w.heap.size + 1 + 1, 1, none⟩, ⟨w.heap.size + 1 + 1, 2, none⟩, ⟨w.heap.size + 1 + 1, 3, none⟩]) := kn_f hb; obtain ⟨⟨-, f0_0⟩, ⟨-, f0_1⟩, ⟨-, f0_2⟩, ⟨-, f0_3⟩, -⟩ := qF0.out; clear hb) | (go_at_call 54; (with_reducible refine (fsign_any _ _ _ q 0 (HQ.out.bf.below ?hb2) SB.out).mono ?_); (case hb2 => first | exact Kn.out | with_reducible exact Aside0.out ‹_›); rintro e w2 ⟨rfl, hb⟩; have qB1 := kn_b (w0 := w) hb; have qC1 : Kn (CL _ [⟨w.heap.size, 0, none⟩, ⟨w.heap.size, 1, none⟩, ⟨w.heap.size, 2, none⟩, ⟨w.heap.size, 3, none⟩, ⟨w.heap.size + 1, 0, none⟩, ⟨w.heap.size + 1, 1, none⟩, ⟨w.heap.size + 1, 2, none⟩, ⟨w.heap.size + 1, 3, none⟩, ⟨w.heap.size + 1 + 1, 0, none⟩, ⟨w.heap.size + 1 + 1, 1, none⟩, ⟨w.heap.size + 1 + 1, 2, none⟩, ⟨w.heap.size + 1 + 1, 3, none⟩] [.bool (decide (n < 0)), .slice A (dig n.natAbs).length c, .bool (decide (dd < 0)), .slice D (dig dd.natAbs).length d, .bool (decide (m < 0)), .slice E (dig m.natAbs).length e1, .bool (decide (ee < 0)), .slice F (dig ee.natAbs).length f1, .bool false, .slice none 0 0, .bool false, .slice none 0 0]) := kn_c hb; obtain ⟨q1_0, q1_1, q1_2, q1_3, q1_4, q1_5, q1_6, q1_7, q1_8, q1_9, q1_10, q1_11, -⟩ := qC1.out; have qF1 : Kn (FZ _ [⟨w.heap.size + 1 + 1, 0, none⟩, ⟨w.heap.size + 1 + 1, 1, none⟩, ⟨w.heap.size + 1 + 1, 2, none⟩, ⟨w.heap.size + 1 + 1, 3, none⟩]) := kn_f hb; obtain ⟨⟨-, f1_0⟩, ⟨-, f1_1⟩, ⟨-, f1_2⟩, ⟨-, f1_3⟩, -⟩ := qF1.out; clear hb))
  refine bodyPost_ret (v := .agg #[.bool false, .slice none 0 0, .bool false, .slice none 0 0]) (by simp [results, Try.results45, go_sem, q1_8, q1_9, q1_10, q1_11]) rfl ⟨_, rfl, BF.zero _ _, below_set4 qB1.out (le_two _) _ _ _ _⟩
set_option maxHeartbeats 4000000 in
set_option maxRecDepth 100000 in
theorem fmul_pos (w : World) (P : Nat → Prop) (u v : Value) (p q : Rat) (h0 : BF w P u p) (h1 : BF w P v q) (hp0 : p.num ≠ 0) (hq0 : q.num ≠ 0) (hfp : Fit p) (hfq : Fit q) :
    Calls Try.prog 45 #[u, v] w fun e w' => ∃ u, e = .returned u ∧ BF w' (fun k => w.heap.size ≤ k) u (p * q) ∧ Below w.heap.size w w' := by
  obtain ⟨A, D, c, d, n, dd, rfl, hp⟩ := h0.low.parts
  obtain ⟨E, F, e1, f1, m, ee, rfl, hp2⟩ := h1.low.parts
  have HP := Aside0.mk hp
  have HQ := Aside0.mk hp2
  have hpq := fmul_val p q
  rw [← hp.den_is hp0, ← hp2.den_is hq0, hp.isnum, hp2.isnum] at hpq
  have HPQ := Aside0.mk hpq
  have HD1 := Aside0.mk (hp.den_is hp0)
  have HD2 := Aside0.mk (hp2.den_is hq0)
  have FP := Aside0.mk (hp.fit hfp)
  have FQ := Aside0.mk (hp2.fit hfq)
  obtain ⟨sa, hsa⟩ : ∃ s, p.num.sign = s := ⟨_, rfl⟩
  obtain ⟨sb, hsb⟩ : ∃ s, q.num.sign = s := ⟨_, rfl⟩
  have hs1 : (sa == 0) = false := by rw [beq_eq_false_iff_ne, ← hsa, Ne, Int.sign_eq_zero_iff_zero]; exact hp0
  have hs2 : (sb == 0) = false := by rw [beq_eq_false_iff_ne, ← hsb, Ne, Int.sign_eq_zero_iff_zero]; exact hq0
  have SA := Aside0.mk hsa
  have SB := Aside0.mk hsb
  clear h0 h1 hp hp2 hp0 hq0 hsa hsb hpq hfp hfq
  have LL := Aside0.mk (fun (k : Nat) (h : k ≤ 8000000000000) => (by omega : k ≤ 35184372088832))
  go_enter Try.func45, Try.ntmps45
  go_upto_region 3 with (first | (go_at_call 54; (with_reducible refine (fsign_any _ _ _ p sa (HP.out.bf.below ?hb1) SA.out).mono ?_); (case hb1 => first | exact Kn.out | with_reducible exact Aside0.out ‹_›); rintro e w1 ⟨rfl, hb⟩; have qB0 := kn_b (w0 := w) hb; have qC0 : Kn (CL _ [⟨w.heap.size, 0, none⟩, ⟨w.heap.size, 1, none⟩, ⟨w.heap.size, 2, none⟩, ⟨w.heap.size, 3, none⟩, ⟨w.heap.size + 1, 0, none⟩, ⟨w.heap.size + 1, 1, none⟩, ⟨w.heap.size + 1, 2, none⟩, ⟨w.heap.size + 1, 3, none⟩, ⟨w.heap.size + 1 + 1, 0, none⟩, ⟨w.heap.size + 1 + 1, 1, none⟩, ⟨w.heap.size + 1 + 1, 2, none⟩, ⟨w.heap.size + 1 + 1, 3, none⟩] [.bool (decide (n < 0)), .slice A (dig n.natAbs).length c, .bool (decide (dd < 0)), .slice D (dig dd.natAbs).length d, .bool (decide (m < 0)), .slice E (dig m.natAbs).length e1, .bool (decide (ee < 0)), .slice F (dig ee.natAbs).length f1, .bool false, .slice none 0 0, .bool false, .slice none 0 0]) := kn_c hb; obtain ⟨q0_0, q0_1, q0_2, q0_3, q0_4, q0_5, q0_6, q0_7, q0_8, q0_9, q0_10, q0_11, -⟩ := qC0.out; have qF0 : Kn (FZ _ [⟨w.heap.size + 1 + 1, 0, none⟩, ⟨w.heap.size + 1 + 1, 1, none⟩, ⟨w.heap.size + 1 + 1, 2, none⟩, ⟨w.heap.size + 1 + 1, 3, none⟩]) := kn_f hb; obtain ⟨⟨-, f0_0⟩, ⟨-, f0_1⟩, ⟨-, f0_2⟩, ⟨-, f0_3⟩, -⟩ := qF0.out; clear hb) | (go_at_call 54; (with_reducible refine (fsign_any _ _ _ q sb (HQ.out.bf.below ?hb2) SB.out).mono ?_); (case hb2 => first | exact Kn.out | with_reducible exact Aside0.out ‹_›); rintro e w2 ⟨rfl, hb⟩; have qB1 := kn_b (w0 := w) hb; have qC1 : Kn (CL _ [⟨w.heap.size, 0, none⟩, ⟨w.heap.size, 1, none⟩, ⟨w.heap.size, 2, none⟩, ⟨w.heap.size, 3, none⟩, ⟨w.heap.size + 1, 0, none⟩, ⟨w.heap.size + 1, 1, none⟩, ⟨w.heap.size + 1, 2, none⟩, ⟨w.heap.size + 1, 3, none⟩, ⟨w.heap.size + 1 + 1, 0, none⟩, ⟨w.heap.size + 1 + 1, 1, none⟩, ⟨w.heap.size + 1 + 1, 2, none⟩, ⟨w.heap.size + 1 + 1, 3, none⟩] [.bool (decide (n < 0)), .slice A (dig n.natAbs).length c, .bool (decide (dd < 0)), .slice D (dig dd.natAbs).length d, .bool (decide (m < 0)), .slice E (dig m.natAbs).length e1, .bool (decide (ee < 0)), .slice F (dig ee.natAbs).length f1, .bool false, .slice none 0 0, .bool false, .slice none 0 0]) := kn_c hb; obtain ⟨q1_0, q1_1, q1_2, q1_3, q1_4, q1_5, q1_6, q1_7, q1_8, q1_9, q1_10, q1_11, -⟩ := qC1.out; have qF1 : Kn (FZ _ [⟨w.heap.size + 1 + 1, 0, none⟩, ⟨w.heap.size + 1 + 1, 1, none⟩, ⟨w.heap.size + 1 + 1, 2, none⟩, ⟨w.heap.size + 1 + 1, 3, none⟩]) := kn_f hb; obtain ⟨⟨-, f1_0⟩, ⟨-, f1_1⟩, ⟨-, f1_2⟩, ⟨-, f1_3⟩, -⟩ := qF1.out; clear hb))
  go_region_held3 (fun W => W.cell? ⟨w.heap.size, 0, none⟩ = some (.bool (decide (n < 0))) ∧ W.cell? ⟨w.heap.size, 1, none⟩ = some (.slice A (dig n.natAbs).length c) ∧ W.cell? ⟨w.heap.size, 2, none⟩ = some (.bool (decide (dd < 0))) ∧ W.cell? ⟨w.heap.size, 3, none⟩ = some (.slice D (dig dd.natAbs).length d) ∧ W.cell? ⟨w.heap.size + 1, 0, none⟩ = some (.bool (decide (m < 0))) ∧ W.cell? ⟨w.heap.size + 1, 1, none⟩ = some (.slice E (dig m.natAbs).length e1) ∧ W.cell? ⟨w.heap.size + 1, 2, none⟩ = some (.bool (decide (ee < 0))) ∧ W.cell? ⟨w.heap.size + 1, 3, none⟩ = some (.slice F (dig ee.natAbs).length f1) ∧ Kn (Below w.heap.size w W)) (((repeat' apply And.intro) <;> first | with_reducible assumption | exact Kn.out | infer_instance | ((try (with_reducible refine c_drew ?_)); (repeat' (first | with_reducible refine kset Kn.out ?_ | with_reducible refine kset ‹_› ?_ | with_reducible refine c_low' ?_)); with_reducible assumption))) ((first | (go_at_call 56; (with_reducible refine (mul_bi _ _ _ _ _ n m (HP.out.num.below ?hb3) (HQ.out.num.below ?hb3) (LL.out _ FP.out.1) (LL.out _ FQ.out.1)).mono ?_); (try (case hb3 => first | exact Kn.out | with_reducible exact Aside0.out ‹_›)); rintro e w3 ⟨v, rfl, hv, hb⟩; obtain ⟨t1, hz⟩ : ∃ z : Int, z = n * m := ⟨_, rfl⟩; rw [← hz] at hv; have Ht1 := Aside0.mk hz; have Xt1 := Aside0.mk hv; clear hz; have qB2 := kn_b (w0 := w) hb; have qC2 : Kn (CL _ [⟨w.heap.size, 0, none⟩, ⟨w.heap.size, 1, none⟩, ⟨w.heap.size, 2, none⟩, ⟨w.heap.size, 3, none⟩, ⟨w.heap.size + 1, 0, none⟩, ⟨w.heap.size + 1, 1, none⟩, ⟨w.heap.size + 1, 2, none⟩, ⟨w.heap.size + 1, 3, none⟩, ⟨w.heap.size + 1 + 1, 0, none⟩, ⟨w.heap.size + 1 + 1, 1, none⟩, ⟨w.heap.size + 1 + 1, 2, none⟩, ⟨w.heap.size + 1 + 1, 3, none⟩] [.bool (decide (n < 0)), .slice A (dig n.natAbs).length c, .bool (decide (dd < 0)), .slice D (dig dd.natAbs).length d, .bool (decide (m < 0)), .slice E (dig m.natAbs).length e1, .bool (decide (ee < 0)), .slice F (dig ee.natAbs).length f1, .bool false, .slice none 0 0, .bool false, .slice none 0 0]) := kn_c hb; obtain ⟨q2_0, q2_1, q2_2, q2_3, q2_4, q2_5, q2_6, q2_7, q2_8, q2_9, q2_10, q2_11, -⟩ := qC2.out; have qF2 : Kn (FZ _ [⟨w.heap.size + 1 + 1, 0, none⟩, ⟨w.heap.size + 1 + 1, 1, none⟩, ⟨w.heap.size + 1 + 1, 2, none⟩, ⟨w.heap.size + 1 + 1, 3, none⟩]) := kn_f hb; obtain ⟨⟨-, f2_0⟩, ⟨-, f2_1⟩, ⟨-, f2_2⟩, ⟨-, f2_3⟩, -⟩ := qF2.out; clear hb) | (go_at_call 56; (with_reducible refine (mul_bi _ _ _ _ _ dd ee (HP.out.den.below ?hb4) (HQ.out.den.below ?hb4) (LL.out _ FP.out.2) (LL.out _ FQ.out.2)).mono ?_); (try (case hb4 => first | exact Kn.out | with_reducible exact Aside0.out ‹_›)); rintro e w4 ⟨v, rfl, hv, hb⟩; obtain ⟨t2, hz⟩ : ∃ z : Int, z = dd * ee := ⟨_, rfl⟩; rw [← hz] at hv; have Ht2 := Aside0.mk hz; have Xt2 := Aside0.mk hv; clear hz; have Xt1 := Aside0.mk (Xt1.out.below hb); have qB3 := kn_b (w0 := w) hb; have qC3 : Kn (CL _ [⟨w.heap.size, 0, none⟩, ⟨w.heap.size, 1, none⟩, ⟨w.heap.size, 2, none⟩, ⟨w.heap.size, 3, none⟩, ⟨w.heap.size + 1, 0, none⟩, ⟨w.heap.size + 1, 1, none⟩, ⟨w.heap.size + 1, 2, none⟩, ⟨w.heap.size + 1, 3, none⟩, ⟨w.heap.size + 1 + 1, 0, none⟩, ⟨w.heap.size + 1 + 1, 1, none⟩, ⟨w.heap.size + 1 + 1, 2, none⟩, ⟨w.heap.size + 1 + 1, 3, none⟩] [.bool (decide (n < 0)), .slice A (dig n.natAbs).length c, .bool (decide (dd < 0)), .slice D (dig dd.natAbs).length d, .bool (decide (m < 0)), .slice E (dig m.natAbs).length e1, .bool (decide (ee < 0)), .slice F (dig ee.natAbs).length f1, .bool false, .slice none 0 0, .bool false, .slice none 0 0]) := kn_c hb; obtain ⟨q3_0, q3_1, q3_2, q3_3, q3_4, q3_5, q3_6, q3_7, q3_8, q3_9, q3_10, q3_11, -⟩ := qC3.out; have qF3 : Kn (FZ _ [⟨w.heap.size + 1 + 1, 0, none⟩, ⟨w.heap.size + 1 + 1, 1, none⟩, ⟨w.heap.size + 1 + 1, 2, none⟩, ⟨w.heap.size + 1 + 1, 3, none⟩]) := kn_f hb; obtain ⟨⟨-, f3_0⟩, ⟨-, f3_1⟩, ⟨-, f3_2⟩, ⟨-, f3_3⟩, -⟩ := qF3.out; clear hb) | (go_at_call 55; (with_reducible refine (ratio_any _ (fun _ => True) _ _ t1 t2 ((Xt1.out.mono fun _ _ => trivial)) ((Xt2.out.mono fun _ _ => trivial)) (by have h1 := imul_len n m _ _ FP.out.1 FQ.out.1; rw [Ht1.out]; omega) (by have h1 := imul_len dd ee _ _ FP.out.2 FQ.out.2; rw [Ht2.out]; omega) (by rw [Ht2.out, HD1.out, HD2.out]; exact Int.mul_ne_zero (by have := p.den_nz; omega) (by have := q.den_nz; omega))).mono ?_); rintro e w5 ⟨v, rfl, hv, hb⟩; obtain ⟨r, hz⟩ : ∃ z : Rat, z = Rat.divInt t1 t2 := ⟨_, rfl⟩; rw [← hz] at hv; have Hr := Aside0.mk hz; obtain ⟨G, I, g1, i1, rn, rd, rfl, hr⟩ := hv.parts; have XR := Aside0.mk hr; clear hz hv hr; have qB4 := kn_b (w0 := w) hb; have qC4 : Kn (CL _ [⟨w.heap.size, 0, none⟩, ⟨w.heap.size, 1, none⟩, ⟨w.heap.size, 2, none⟩, ⟨w.heap.size, 3, none⟩, ⟨w.heap.size + 1, 0, none⟩, ⟨w.heap.size + 1, 1, none⟩, ⟨w.heap.size + 1, 2, none⟩, ⟨w.heap.size + 1, 3, none⟩, ⟨w.heap.size + 1 + 1, 0, none⟩, ⟨w.heap.size + 1 + 1, 1, none⟩, ⟨w.heap.size + 1 + 1, 2, none⟩, ⟨w.heap.size + 1 + 1, 3, none⟩] [.bool (decide (n < 0)), .slice A (dig n.natAbs).length c, .bool (decide (dd < 0)), .slice D (dig dd.natAbs).length d, .bool (decide (m < 0)), .slice E (dig m.natAbs).length e1, .bool (decide (ee < 0)), .slice F (dig ee.natAbs).length f1, .bool false, .slice none 0 0, .bool false, .slice none 0 0]) := kn_c hb; obtain ⟨q4_0, q4_1, q4_2, q4_3, q4_4, q4_5, q4_6, q4_7, q4_8, q4_9, q4_10, q4_11, -⟩ := qC4.out; have qF4 : Kn (FZ _ [⟨w.heap.size + 1 + 1, 0, none⟩, ⟨w.heap.size + 1 + 1, 1, none⟩, ⟨w.heap.size + 1 + 1, 2, none⟩, ⟨w.heap.size + 1 + 1, 3, none⟩]) := kn_f hb; obtain ⟨⟨-, f4_0⟩, ⟨-, f4_1⟩, ⟨-, f4_2⟩, ⟨-, f4_3⟩, -⟩ := qF4.out; clear hb)))
  go_wp2
  have hr : r = p * q := by rw [Hr.out, HPQ.out, Ht1.out, Ht2.out]
  have hsz := World.block_lt_of_cell? _ _ q3_11
  rw [← hr]
  refine bodyPost_ret (v := .agg #[.bool (decide (rn < 0)), .slice G (dig rn.natAbs).length g1, .bool (decide (rd < 0)), .slice I (dig rd.natAbs).length i1]) (by simp [results, Try.results45, go_sem, q4_8, q4_9, q4_10, q4_11]) rfl ⟨_, rfl, ?_, below_set4 qB4.out (le_two _) _ _ _ _⟩
  exact ((XR.out.set4 (g := w.heap.size + 1 + 1) (Nat.not_le.2 hsz) _ _ _ _).mono fun k hk => (Nat.le_trans (Nat.le_of_lt (Nat.lt_of_le_of_lt (le_two _) hsz)) hk)).bf
theorem fmul_any (w : World) (P : Nat → Prop) (u v : Value) (p q : Rat) (h0 : BF w P u p) (h1 : BF w P v q) (hfp : Fit p) (hfq : Fit q) :
    Calls Try.prog 45 #[u, v] w fun e w' => ∃ u, e = .returned u ∧ BF w' (fun k => w.heap.size ≤ k) u (p * q) ∧ Below w.heap.size w w' := by
  by_cases hp : p.num = 0
  · exact fmul_l0 w P u v p q h0 h1 hp
  · by_cases hq : q.num = 0
    · exact fmul_r0 w P u v p q h0 h1 hq hp
    · exact fmul_pos w P u v p q h0 h1 hp hq hfp hfq
end Go.Proofs.Ytlaidcoickeihaa.Nb
namespace Go.Proofs.Ytlaidcoickeihaa.Nb
open Go.RowKit Go.Proofs.Ytlaidcoickeihaa.Wd.PrintWords Go.Proofs.Ytlaidcoickeihaa.Wd.PrintLast Go.Proofs.Ytlaidcoickeihaa.Wd.PrintMore Go.Proofs.Ytlaidcoickeihaa.Big
set_option synthInstance.maxSize 2000
set_option synthInstance.maxHeartbeats 400000
theorem Fit.neg {q : Rat} (h : Fit q) : Fit (-q) := ⟨by rw [Rat.neg_num, Int.natAbs_neg]; exact h.1, by rw [Rat.neg_den]; exact h.2⟩
set_option maxHeartbeats 4000000 in
set_option maxRecDepth 100000 in
theorem fsub_any (w : World) (P : Nat → Prop) (u v : Value) (p q : Rat) (h0 : BF w P u p) (h1 : BF w P v q) (hfp : Fit p) (hfq : Fit q) :
    Calls Try.prog 44 #[u, v] w fun e w' => ∃ u, e = .returned u ∧ BF w' (fun k => P k ∨ w.heap.size ≤ k) u (p - q) ∧ Below w.heap.size w w' := by
  obtain ⟨A, D, c, d, n, dd, rfl, hp⟩ := h0.low.parts
  obtain ⟨E, F, e1, f1, m, ee, rfl, hp2⟩ := h1.low.parts
  have HP := Aside0.mk hp
  have HQ := Aside0.mk hp2
  have FP := Aside0.mk hfp
  have FQ := Aside0.mk hfq.neg
  clear h0 h1 hp hp2 hfp hfq
  go_enter Try.func44, Try.ntmps44
  go_wp2
  go_region_held3 (fun W => W.cell? ⟨w.heap.size, 0, none⟩ = some (.bool (decide (n < 0))) ∧ W.cell? ⟨w.heap.size, 1, none⟩ = some (.slice A (dig n.natAbs).length c) ∧ W.cell? ⟨w.heap.size, 2, none⟩ = some (.bool (decide (dd < 0))) ∧ W.cell? ⟨w.heap.size, 3, none⟩ = some (.slice D (dig dd.natAbs).length d) ∧ W.cell? ⟨w.heap.size + 1, 0, none⟩ = some (.bool (decide (m < 0))) ∧ W.cell? ⟨w.heap.size + 1, 1, none⟩ = some (.slice E (dig m.natAbs).length e1) ∧ W.cell? ⟨w.heap.size + 1, 2, none⟩ = some (.bool (decide (ee < 0))) ∧ W.cell? ⟨w.heap.size + 1, 3, none⟩ = some (.slice F (dig ee.natAbs).length f1) ∧ Kn (Below w.heap.size w W)) (((repeat' apply And.intro) <;> first | with_reducible assumption | exact Kn.out | infer_instance | ((try (with_reducible refine c_drew ?_)); (repeat' (first | with_reducible refine kset Kn.out ?_ | with_reducible refine kset ‹_› ?_ | with_reducible refine c_low' ?_)); with_reducible assumption))) ((first | (go_at_call 58; (with_reducible refine (fneg_any _ _ _ q (HQ.out.bf.below ?hb1)).mono ?_); (case hb1 => first | exact Kn.out | with_reducible exact Aside0.out ‹_›); rintro e w1 ⟨v, rfl, hv, hb⟩; have XV := Aside0.mk hv; have qB0 := kn_b (w0 := w) hb; have qC0 : Kn (CL _ [⟨w.heap.size, 0, none⟩, ⟨w.heap.size, 1, none⟩, ⟨w.heap.size, 2, none⟩, ⟨w.heap.size, 3, none⟩, ⟨w.heap.size + 1, 0, none⟩, ⟨w.heap.size + 1, 1, none⟩, ⟨w.heap.size + 1, 2, none⟩, ⟨w.heap.size + 1, 3, none⟩, ⟨w.heap.size + 1 + 1, 0, none⟩, ⟨w.heap.size + 1 + 1, 1, none⟩, ⟨w.heap.size + 1 + 1, 2, none⟩, ⟨w.heap.size + 1 + 1, 3, none⟩] [.bool (decide (n < 0)), .slice A (dig n.natAbs).length c, .bool (decide (dd < 0)), .slice D (dig dd.natAbs).length d, .bool (decide (m < 0)), .slice E (dig m.natAbs).length e1, .bool (decide (ee < 0)), .slice F (dig ee.natAbs).length f1, .bool false, .slice none 0 0, .bool false, .slice none 0 0]) := kn_c hb; obtain ⟨q0_0, q0_1, q0_2, q0_3, q0_4, q0_5, q0_6, q0_7, q0_8, q0_9, q0_10, q0_11, -⟩ := qC0.out; have qF0 : Kn (FZ _ [⟨w.heap.size + 1 + 1, 0, none⟩, ⟨w.heap.size + 1 + 1, 1, none⟩, ⟨w.heap.size + 1 + 1, 2, none⟩, ⟨w.heap.size + 1 + 1, 3, none⟩]) := kn_f hb; obtain ⟨⟨-, f0_0⟩, ⟨-, f0_1⟩, ⟨-, f0_2⟩, ⟨-, f0_3⟩, -⟩ := qF0.out; clear hb) | (go_at_call 43; (with_reducible refine (fadd_any _ (fun k => P k ∧ k < w.heap.size ∨ w.heap.size + 1 + 1 + 1 ≤ k) _ _ p (-q) ((HP.out.bf.below ?hb2).mono fun k hk => .inl hk) (XV.out.mono fun k hk => by simpa using hk) FP.out FQ.out).mono ?_); (case hb2 => first | exact Kn.out | with_reducible exact Aside0.out ‹_›); rintro e w2 ⟨v, rfl, hv, hb⟩; obtain ⟨r, hr⟩ : ∃ r, r = p + -q := ⟨_, rfl⟩; rw [← hr] at hv; have HR := Aside0.mk hr; obtain ⟨G, I, g1, i1, rn, rd, rfl, hpt⟩ := hv.parts; have XR := Aside0.mk hpt; clear hr hv hpt; have qB1 := kn_b (w0 := w) hb; have qC1 : Kn (CL _ [⟨w.heap.size, 0, none⟩, ⟨w.heap.size, 1, none⟩, ⟨w.heap.size, 2, none⟩, ⟨w.heap.size, 3, none⟩, ⟨w.heap.size + 1, 0, none⟩, ⟨w.heap.size + 1, 1, none⟩, ⟨w.heap.size + 1, 2, none⟩, ⟨w.heap.size + 1, 3, none⟩, ⟨w.heap.size + 1 + 1, 0, none⟩, ⟨w.heap.size + 1 + 1, 1, none⟩, ⟨w.heap.size + 1 + 1, 2, none⟩, ⟨w.heap.size + 1 + 1, 3, none⟩] [.bool (decide (n < 0)), .slice A (dig n.natAbs).length c, .bool (decide (dd < 0)), .slice D (dig dd.natAbs).length d, .bool (decide (m < 0)), .slice E (dig m.natAbs).length e1, .bool (decide (ee < 0)), .slice F (dig ee.natAbs).length f1, .bool false, .slice none 0 0, .bool false, .slice none 0 0]) := kn_c hb; obtain ⟨q1_0, q1_1, q1_2, q1_3, q1_4, q1_5, q1_6, q1_7, q1_8, q1_9, q1_10, q1_11, -⟩ := qC1.out; have qF1 : Kn (FZ _ [⟨w.heap.size + 1 + 1, 0, none⟩, ⟨w.heap.size + 1 + 1, 1, none⟩, ⟨w.heap.size + 1 + 1, 2, none⟩, ⟨w.heap.size + 1 + 1, 3, none⟩]) := kn_f hb; obtain ⟨⟨-, f1_0⟩, ⟨-, f1_1⟩, ⟨-, f1_2⟩, ⟨-, f1_3⟩, -⟩ := qF1.out; clear hb)))
  go_wp2
  have hsz := World.block_lt_of_cell? _ _ q0_11
  rw [Rat.sub_eq_add_neg, ← HR.out]
  refine bodyPost_ret (v := .agg #[.bool (decide (rn < 0)), .slice G (dig rn.natAbs).length g1, .bool (decide (rd < 0)), .slice I (dig rd.natAbs).length i1]) (by simp [results, Try.results44, go_sem, q1_8, q1_9, q1_10, q1_11]) rfl ⟨_, rfl, ?_, below_set4 qB1.out (le_two _) _ _ _ _⟩
  have hsz2 : w.heap.size + 1 + 1 < w1.heap.size := hsz
  exact ((XR.out.set4 (g := w.heap.size + 1 + 1) (fun h => h.elim (not_ok (le_two _) (Nat.lt_succ_self _)) (Nat.not_le.2 hsz2)) _ _ _ _).mono fun k hk => by
    rcases hk with hk | hk
    · exact or_ok hk
    · exact .inr (by omega)).bf
end Go.Proofs.Ytlaidcoickeihaa.Nb
namespace Go.Proofs.Ytlaidcoickeihaa.Nb
open Go.RowKit Go.Proofs.Ytlaidcoickeihaa.Wd.PrintWords Go.Proofs.Ytlaidcoickeihaa.Wd.PrintLast Go.Proofs.Ytlaidcoickeihaa.Wd.PrintMore Go.Proofs.Ytlaidcoickeihaa.Big
set_option synthInstance.maxSize 2000
set_option synthInstance.maxHeartbeats 400000
def IsCalls (isq : Int → Int → Bool) : Prop := ∀ (w : World) (n d : Int), (-9223372036854775808 ≤ n ∧ n ≤ 9223372036854775807) → (-9223372036854775808 ≤ d ∧ d ≤ 9223372036854775807) →
  Calls Try.prog 40 #[.agg #[.int .i64 n, .int .i64 d]] w fun e w' => e = .returned (.bool (isq n d)) ∧ Below w.heap.size w w'
theorem is_by {isq : Int → Int → Bool} (h : IsCalls isq) (w : World) (n d : Int) (hn : -9223372036854775808 ≤ n ∧ n ≤ 9223372036854775807) (hd : -9223372036854775808 ≤ d ∧ d ≤ 9223372036854775807) :
  Calls Try.prog 40 #[.agg #[.int .i64 n, .int .i64 d]] w fun e w' => e = .returned (.bool (isq n d)) ∧ Below w.heap.size w w' := h w n d hn hd
def IsGood (isq : Int → Int → Bool) : Prop := ∀ n d, isq n d = true → 1 ≤ d ∧ Int.gcd n d = 1
def ofQ (isq : Int → Int → Bool) (n d : Int) : Rat := if isq n d = true then Rat.divInt n d else 0
theorem ofQ_num {isq : Int → Int → Bool} (hg : IsGood isq) {n d : Int} (h : isq n d = true) : (ofQ isq n d).num = n := by
  obtain ⟨h1, h2⟩ := hg n d h
  unfold ofQ
  rw [if_pos h, Rat.num_divInt, Int.gcd_comm, h2, Int.sign_eq_one_of_pos (by omega)]
  simp
theorem ofQ_den {isq : Int → Int → Bool} (hg : IsGood isq) {n d : Int} (h : isq n d = true) : ((ofQ isq n d).den : Int) = d := by
  obtain ⟨h1, h2⟩ := hg n d h
  unfold ofQ
  rw [if_pos h, Rat.den_divInt, Int.gcd_comm, h2, if_neg (by omega), Nat.div_one]
  omega
set_option maxHeartbeats 4000000 in
set_option maxRecDepth 100000 in
theorem ffrom_no (isq : Int → Int → Bool) (hi : IsCalls isq) (w : World) (n d : Int) (hn : -9223372036854775808 ≤ n ∧ n ≤ 9223372036854775807) (hd : -9223372036854775808 ≤ d ∧ d ≤ 9223372036854775807) (h : isq n d = false) :
    Calls Try.prog 42 #[.agg #[.int .i64 n, .int .i64 d]] w fun e w' => ∃ u, e = .returned u ∧ BF w' (fun k => w.heap.size ≤ k) u (ofQ isq n d) ∧ Below w.heap.size w w' := by
  rw [show ofQ isq n d = 0 by unfold ofQ; rw [if_neg (by rw [h]; decide)]]
  have HI := Aside0.mk hi
  have HN := Aside0.mk hn
  have HD := Aside0.mk hd
  clear hi hn hd
  go_enter Try.func42, Try.ntmps42
  go_wp2_with (go_at_call 40; (with_reducible refine (is_by HI.out _ n d HN.out HD.out).mono ?_); rintro e w1 ⟨rfl, hb⟩; have qB0 := kn_b (w0 := w) hb; have qC0 : Kn (CL _ [⟨w.heap.size, 0, none⟩, ⟨w.heap.size, 1, none⟩, ⟨w.heap.size + 1, 0, none⟩, ⟨w.heap.size + 1, 1, none⟩, ⟨w.heap.size + 1, 2, none⟩, ⟨w.heap.size + 1, 3, none⟩] [.int .i64 n, .int .i64 d, .bool false, .slice none 0 0, .bool false, .slice none 0 0]) := kn_c hb; obtain ⟨q0_0, q0_1, q0_2, q0_3, q0_4, q0_5, -⟩ := qC0.out; have qF0 : Kn (FZ _ [⟨w.heap.size + 1, 0, none⟩, ⟨w.heap.size + 1, 1, none⟩, ⟨w.heap.size + 1, 2, none⟩, ⟨w.heap.size + 1, 3, none⟩]) := kn_f hb; obtain ⟨⟨-, f0_0⟩, ⟨-, f0_1⟩, ⟨-, f0_2⟩, ⟨-, f0_3⟩, -⟩ := qF0.out; clear hb)
  refine bodyPost_ret (v := .agg #[.bool false, .slice none 0 0, .bool false, .slice none 0 0]) (by simp [results, Try.results42, go_sem, q0_2, q0_3, q0_4, q0_5]) rfl ⟨_, rfl, BF.zero _ _, below_set4 qB0.out (Nat.le_succ _) _ _ _ _⟩
set_option maxHeartbeats 4000000 in
set_option maxRecDepth 100000 in
theorem ffrom_yes (isq : Int → Int → Bool) (hi : IsCalls isq) (hg : IsGood isq) (w : World) (n d : Int) (hn : -9223372036854775808 ≤ n ∧ n ≤ 9223372036854775807) (hd : -9223372036854775808 ≤ d ∧ d ≤ 9223372036854775807) (h : isq n d = true) :
    Calls Try.prog 42 #[.agg #[.int .i64 n, .int .i64 d]] w fun e w' => ∃ u, e = .returned u ∧ BF w' (fun k => w.heap.size ≤ k) u (ofQ isq n d) ∧ Below w.heap.size w w' := by
  have HI := Aside0.mk hi
  have HN := Aside0.mk hn
  have HD := Aside0.mk hd
  have QN := Aside0.mk (ofQ_num hg h)
  have QD := Aside0.mk (ofQ_den hg h)
  clear hi hn hd hg
  go_enter Try.func42, Try.ntmps42
  go_upto_region 3 with (go_at_call 40; (with_reducible refine (is_by HI.out _ n d HN.out HD.out).mono ?_); rintro e w1 ⟨rfl, hb⟩; have qB0 := kn_b (w0 := w) hb; have qC0 : Kn (CL _ [⟨w.heap.size, 0, none⟩, ⟨w.heap.size, 1, none⟩, ⟨w.heap.size + 1, 0, none⟩, ⟨w.heap.size + 1, 1, none⟩, ⟨w.heap.size + 1, 2, none⟩, ⟨w.heap.size + 1, 3, none⟩] [.int .i64 n, .int .i64 d, .bool false, .slice none 0 0, .bool false, .slice none 0 0]) := kn_c hb; obtain ⟨q0_0, q0_1, q0_2, q0_3, q0_4, q0_5, -⟩ := qC0.out; have qF0 : Kn (FZ _ [⟨w.heap.size + 1, 0, none⟩, ⟨w.heap.size + 1, 1, none⟩, ⟨w.heap.size + 1, 2, none⟩, ⟨w.heap.size + 1, 3, none⟩]) := kn_f hb; obtain ⟨⟨-, f0_0⟩, ⟨-, f0_1⟩, ⟨-, f0_2⟩, ⟨-, f0_3⟩, -⟩ := qF0.out; clear hb)
  go_region_held3 (fun W => W.cell? ⟨w.heap.size, 0, none⟩ = some (.int .i64 n) ∧ W.cell? ⟨w.heap.size, 1, none⟩ = some (.int .i64 d) ∧ Kn (Below w.heap.size w W)) (((repeat' apply And.intro) <;> first | with_reducible assumption | exact Kn.out | infer_instance | ((try (with_reducible refine c_drew ?_)); (repeat' (first | with_reducible refine kset Kn.out ?_ | with_reducible refine kset ‹_› ?_ | with_reducible refine c_low' ?_)); with_reducible assumption))) ((first | (go_at_call 53; (with_reducible refine (of_any _ n HN.out).mono ?_); rintro e w2 ⟨v, rfl, hv, hb⟩; have XN := Aside0.mk hv; obtain ⟨A, c, rfl, -⟩ := hv; have qB1 := kn_b (w0 := w) hb; have qC1 : Kn (CL _ [⟨w.heap.size, 0, none⟩, ⟨w.heap.size, 1, none⟩, ⟨w.heap.size + 1, 0, none⟩, ⟨w.heap.size + 1, 1, none⟩, ⟨w.heap.size + 1, 2, none⟩, ⟨w.heap.size + 1, 3, none⟩] [.int .i64 n, .int .i64 d, .bool false, .slice none 0 0, .bool false, .slice none 0 0]) := kn_c hb; obtain ⟨q1_0, q1_1, q1_2, q1_3, q1_4, q1_5, -⟩ := qC1.out; have qF1 : Kn (FZ _ [⟨w.heap.size + 1, 0, none⟩, ⟨w.heap.size + 1, 1, none⟩, ⟨w.heap.size + 1, 2, none⟩, ⟨w.heap.size + 1, 3, none⟩]) := kn_f hb; obtain ⟨⟨-, f1_0⟩, ⟨-, f1_1⟩, ⟨-, f1_2⟩, ⟨-, f1_3⟩, -⟩ := qF1.out; clear hb) | (go_at_call 53; (with_reducible refine (of_any _ d HD.out).mono ?_); rintro e w3 ⟨v, rfl, hv, hb⟩; have XN3 := Aside0.mk (XN.out.below hb); have XD := Aside0.mk hv; obtain ⟨D, e1, rfl, -⟩ := hv; have qB2 := kn_b (w0 := w) hb; have qC2 : Kn (CL _ [⟨w.heap.size, 0, none⟩, ⟨w.heap.size, 1, none⟩, ⟨w.heap.size + 1, 0, none⟩, ⟨w.heap.size + 1, 1, none⟩, ⟨w.heap.size + 1, 2, none⟩, ⟨w.heap.size + 1, 3, none⟩] [.int .i64 n, .int .i64 d, .bool false, .slice none 0 0, .bool false, .slice none 0 0]) := kn_c hb; obtain ⟨q2_0, q2_1, q2_2, q2_3, q2_4, q2_5, -⟩ := qC2.out; have qF2 : Kn (FZ _ [⟨w.heap.size + 1, 0, none⟩, ⟨w.heap.size + 1, 1, none⟩, ⟨w.heap.size + 1, 2, none⟩, ⟨w.heap.size + 1, 3, none⟩]) := kn_f hb; obtain ⟨⟨-, f2_0⟩, ⟨-, f2_1⟩, ⟨-, f2_2⟩, ⟨-, f2_3⟩, -⟩ := qF2.out; clear hb)))
  go_wp2
  have hsz1 : w.heap.size + 1 < w1.heap.size := World.block_lt_of_cell? _ _ q0_5
  have hsz2 : w.heap.size + 1 < w2.heap.size := World.block_lt_of_cell? _ _ q1_5
  refine bodyPost_ret (v := .agg #[.bool (decide (n < 0)), .slice A (dig n.natAbs).length c, .bool (decide (d < 0)), .slice D (dig d.natAbs).length e1]) (by simp [results, Try.results42, go_sem, q2_2, q2_3, q2_4, q2_5]) rfl ⟨_, rfl, ?_, below_set4 qB2.out (Nat.le_succ _) _ _ _ _⟩
  have HPart : Parts w3 (fun k => w.heap.size + 2 ≤ k) (ofQ isq n d) A D c e1 n d := ⟨XN3.out.mono fun k (hk : w1.heap.size ≤ k) => by omega, XD.out.mono fun k (hk : w2.heap.size ≤ k) => by omega, QN.out, .inl QD.out.symm⟩
  exact ((HPart.set4 (g := w.heap.size + 1) (by omega) _ _ _ _).mono fun k hk => by omega).bf
theorem ffrom_any (isq : Int → Int → Bool) (hi : IsCalls isq) (hg : IsGood isq) (w : World) (n d : Int) (hn : -9223372036854775808 ≤ n ∧ n ≤ 9223372036854775807) (hd : -9223372036854775808 ≤ d ∧ d ≤ 9223372036854775807) :
    Calls Try.prog 42 #[.agg #[.int .i64 n, .int .i64 d]] w fun e w' => ∃ u, e = .returned u ∧ BF w' (fun k => w.heap.size ≤ k) u (ofQ isq n d) ∧ Below w.heap.size w w' := by
  cases h : isq n d with
  | false => exact ffrom_no isq hi w n d hn hd h
  | true => exact ffrom_yes isq hi hg w n d hn hd h
def MakeCalls (mk : Int → Int → Int × Int) : Prop := ∀ (w : World) (n d : Int), (-9223372036854775808 ≤ n ∧ n ≤ 9223372036854775807) → (-9223372036854775808 ≤ d ∧ d ≤ 9223372036854775807) →
  Calls Try.prog 41 #[.int .i64 n, .int .i64 d] w fun e w' => e = .returned (.agg #[.int .i64 (mk n d).1, .int .i64 (mk n d).2]) ∧ Below w.heap.size w w'
theorem make_by {mk : Int → Int → Int × Int} (h : MakeCalls mk) (w : World) (n d : Int) (hn : -9223372036854775808 ≤ n ∧ n ≤ 9223372036854775807) (hd : -9223372036854775808 ≤ d ∧ d ≤ 9223372036854775807) (m : Int × Int) (hm : mk n d = m) :
  Calls Try.prog 41 #[.int .i64 n, .int .i64 d] w fun e w' => e = .returned (.agg #[.int .i64 m.1, .int .i64 m.2]) ∧ Below w.heap.size w w' := hm ▸ h w n d hn hd
def toQ (isq : Int → Int → Bool) (mk : Int → Int → Int × Int) (q : Rat) : (Int × Int) × Bool :=
  if q.num = 0 then ((0, 1), true) else if isSmall q.num = true ∧ isSmall q.den = true then (mk q.num q.den, isq (mk q.num q.den).1 (mk q.num q.den).2) else ((0, 0), false)
set_option maxHeartbeats 4000000 in
set_option maxRecDepth 100000 in
theorem ftoq_zero (isq : Int → Int → Bool) (mk : Int → Int → Int × Int) (w : World) (P : Nat → Prop) (v : Value) (q : Rat) (h : BF w P v q) (hz : q.num = 0) :
    Calls Try.prog 46 #[v] w fun e w' => e = .returned (.tuple #[.agg #[.int .i64 0, .int .i64 1], .bool true]) ∧ Below w.heap.size w w' := by
  obtain ⟨A, D, c, d, n, dd, rfl, hp⟩ := h.low.parts
  have HP := Aside0.mk hp
  have SA := Aside0.mk (show q.num.sign = 0 by rw [hz]; rfl)
  clear h hp hz
  go_enter Try.func46, Try.ntmps46
  go_wp2_with (go_at_call 54; (with_reducible refine (fsign_any _ _ _ q 0 (HP.out.bf.below ?hb1) SA.out).mono ?_); (case hb1 => first | exact Kn.out | with_reducible exact Aside0.out ‹_›); rintro e w1 ⟨rfl, hb⟩; have qB0 := kn_b (w0 := w) hb; have qC0 : Kn (CL _ [⟨w.heap.size, 0, none⟩, ⟨w.heap.size, 1, none⟩, ⟨w.heap.size, 2, none⟩, ⟨w.heap.size, 3, none⟩, ⟨w.heap.size + 1, 0, none⟩, ⟨w.heap.size + 1, 1, none⟩] [.bool (decide (n < 0)), .slice A (dig n.natAbs).length c, .bool (decide (dd < 0)), .slice D (dig dd.natAbs).length d, .int .i64 0, .int .i64 0]) := kn_c hb; obtain ⟨q0_0, q0_1, q0_2, q0_3, q0_4, q0_5, -⟩ := qC0.out; have qF0 : Kn (FZ _ [⟨w.heap.size + 1, 0, none⟩, ⟨w.heap.size + 1, 1, none⟩]) := kn_f hb; obtain ⟨⟨-, f0_0⟩, ⟨-, f0_1⟩, -⟩ := qF0.out; clear hb)
  exact bodyPost_ret (v := .tuple #[.agg #[.int .i64 0, .int .i64 1], .bool true]) (by simp [results, Try.results46, go_sem, q0_4, q0_5]) rfl ⟨rfl, below_set (below_set qB0.out (Nat.le_succ _)) (Nat.le_succ _)⟩
set_option maxHeartbeats 4000000 in
set_option maxRecDepth 100000 in
theorem ftoq_big (isq : Int → Int → Bool) (mk : Int → Int → Int × Int) (w : World) (P : Nat → Prop) (v : Value) (q : Rat) (h : BF w P v q) (hz : q.num ≠ 0) (hb : ¬ (isSmall q.num = true ∧ isSmall q.den = true)) :
    Calls Try.prog 46 #[v] w fun e w' => e = .returned (.tuple #[.agg #[.int .i64 0, .int .i64 0], .bool false]) ∧ Below w.heap.size w w' := by
  obtain ⟨A, D, c, d, n, dd, rfl, hp⟩ := h.low.parts
  rw [← hp.den_is hz, hp.isnum] at hb
  have HP := Aside0.mk hp
  obtain ⟨sa, hsa⟩ : ∃ s, q.num.sign = s := ⟨_, rfl⟩
  have hs1 : (sa == 0) = false := by rw [beq_eq_false_iff_ne, ← hsa, Ne, Int.sign_eq_zero_iff_zero]; exact hz
  have SA := Aside0.mk hsa
  clear h hp hz hsa
  cases hn : isSmall n with
  | false =>
    clear hb
    go_enter Try.func46, Try.ntmps46
    go_wp2_with (first | (go_at_call 54; (with_reducible refine (fsign_any _ _ _ q sa (HP.out.bf.below ?hb1) SA.out).mono ?_); (case hb1 => first | exact Kn.out | with_reducible exact Aside0.out ‹_›); rintro e w1 ⟨rfl, hb⟩; have qB0 := kn_b (w0 := w) hb; have qC0 : Kn (CL _ [⟨w.heap.size, 0, none⟩, ⟨w.heap.size, 1, none⟩, ⟨w.heap.size, 2, none⟩, ⟨w.heap.size, 3, none⟩, ⟨w.heap.size + 1, 0, none⟩, ⟨w.heap.size + 1, 1, none⟩] [.bool (decide (n < 0)), .slice A (dig n.natAbs).length c, .bool (decide (dd < 0)), .slice D (dig dd.natAbs).length d, .int .i64 0, .int .i64 0]) := kn_c hb; obtain ⟨q0_0, q0_1, q0_2, q0_3, q0_4, q0_5, -⟩ := qC0.out; have qF0 : Kn (FZ _ [⟨w.heap.size + 1, 0, none⟩, ⟨w.heap.size + 1, 1, none⟩]) := kn_f hb; obtain ⟨⟨-, f0_0⟩, ⟨-, f0_1⟩, -⟩ := qF0.out; clear hb) | (go_at_call 59; (with_reducible refine (small_any _ _ _ n (HP.out.num.below ?hb2)).mono ?_); (case hb2 => first | exact Kn.out | with_reducible exact Aside0.out ‹_›); rintro e w2 ⟨rfl, hb⟩; have qB1 := kn_b (w0 := w) hb; have qC1 : Kn (CL _ [⟨w.heap.size, 0, none⟩, ⟨w.heap.size, 1, none⟩, ⟨w.heap.size, 2, none⟩, ⟨w.heap.size, 3, none⟩, ⟨w.heap.size + 1, 0, none⟩, ⟨w.heap.size + 1, 1, none⟩] [.bool (decide (n < 0)), .slice A (dig n.natAbs).length c, .bool (decide (dd < 0)), .slice D (dig dd.natAbs).length d, .int .i64 0, .int .i64 0]) := kn_c hb; obtain ⟨q1_0, q1_1, q1_2, q1_3, q1_4, q1_5, -⟩ := qC1.out; have qF1 : Kn (FZ _ [⟨w.heap.size + 1, 0, none⟩, ⟨w.heap.size + 1, 1, none⟩]) := kn_f hb; obtain ⟨⟨-, f1_0⟩, ⟨-, f1_1⟩, -⟩ := qF1.out; clear hb) | (go_at_call 59; (with_reducible refine (small_any _ _ _ dd (HP.out.den.below ?hb3)).mono ?_); (case hb3 => first | exact Kn.out | with_reducible exact Aside0.out ‹_›); rintro e w3 ⟨rfl, hb⟩; have qB2 := kn_b (w0 := w) hb; have qC2 : Kn (CL _ [⟨w.heap.size, 0, none⟩, ⟨w.heap.size, 1, none⟩, ⟨w.heap.size, 2, none⟩, ⟨w.heap.size, 3, none⟩, ⟨w.heap.size + 1, 0, none⟩, ⟨w.heap.size + 1, 1, none⟩] [.bool (decide (n < 0)), .slice A (dig n.natAbs).length c, .bool (decide (dd < 0)), .slice D (dig dd.natAbs).length d, .int .i64 0, .int .i64 0]) := kn_c hb; obtain ⟨q2_0, q2_1, q2_2, q2_3, q2_4, q2_5, -⟩ := qC2.out; have qF2 : Kn (FZ _ [⟨w.heap.size + 1, 0, none⟩, ⟨w.heap.size + 1, 1, none⟩]) := kn_f hb; obtain ⟨⟨-, f2_0⟩, ⟨-, f2_1⟩, -⟩ := qF2.out; clear hb))
    exact bodyPost_ret (v := .tuple #[.agg #[.int .i64 0, .int .i64 0], .bool false]) (by simp [results, Try.results46, go_sem, q2_4, q2_5]) rfl ⟨rfl, below_set (below_set qB2.out (Nat.le_succ _)) (Nat.le_succ _)⟩
  | true =>
    have hd : isSmall dd = false := by
      cases e : isSmall dd with
      | false => rfl
      | true => exact absurd ⟨hn, e⟩ hb
    clear hb
    go_enter Try.func46, Try.ntmps46
    go_wp2_with (first | (go_at_call 54; (with_reducible refine (fsign_any _ _ _ q sa (HP.out.bf.below ?hb1) SA.out).mono ?_); (case hb1 => first | exact Kn.out | with_reducible exact Aside0.out ‹_›); rintro e w1 ⟨rfl, hb⟩; have qB0 := kn_b (w0 := w) hb; have qC0 : Kn (CL _ [⟨w.heap.size, 0, none⟩, ⟨w.heap.size, 1, none⟩, ⟨w.heap.size, 2, none⟩, ⟨w.heap.size, 3, none⟩, ⟨w.heap.size + 1, 0, none⟩, ⟨w.heap.size + 1, 1, none⟩] [.bool (decide (n < 0)), .slice A (dig n.natAbs).length c, .bool (decide (dd < 0)), .slice D (dig dd.natAbs).length d, .int .i64 0, .int .i64 0]) := kn_c hb; obtain ⟨q0_0, q0_1, q0_2, q0_3, q0_4, q0_5, -⟩ := qC0.out; have qF0 : Kn (FZ _ [⟨w.heap.size + 1, 0, none⟩, ⟨w.heap.size + 1, 1, none⟩]) := kn_f hb; obtain ⟨⟨-, f0_0⟩, ⟨-, f0_1⟩, -⟩ := qF0.out; clear hb) | (go_at_call 59; (with_reducible refine (small_any _ _ _ n (HP.out.num.below ?hb2)).mono ?_); (case hb2 => first | exact Kn.out | with_reducible exact Aside0.out ‹_›); rintro e w2 ⟨rfl, hb⟩; have qB1 := kn_b (w0 := w) hb; have qC1 : Kn (CL _ [⟨w.heap.size, 0, none⟩, ⟨w.heap.size, 1, none⟩, ⟨w.heap.size, 2, none⟩, ⟨w.heap.size, 3, none⟩, ⟨w.heap.size + 1, 0, none⟩, ⟨w.heap.size + 1, 1, none⟩] [.bool (decide (n < 0)), .slice A (dig n.natAbs).length c, .bool (decide (dd < 0)), .slice D (dig dd.natAbs).length d, .int .i64 0, .int .i64 0]) := kn_c hb; obtain ⟨q1_0, q1_1, q1_2, q1_3, q1_4, q1_5, -⟩ := qC1.out; have qF1 : Kn (FZ _ [⟨w.heap.size + 1, 0, none⟩, ⟨w.heap.size + 1, 1, none⟩]) := kn_f hb; obtain ⟨⟨-, f1_0⟩, ⟨-, f1_1⟩, -⟩ := qF1.out; clear hb) | (go_at_call 59; (with_reducible refine (small_any _ _ _ dd (HP.out.den.below ?hb3)).mono ?_); (case hb3 => first | exact Kn.out | with_reducible exact Aside0.out ‹_›); rintro e w3 ⟨rfl, hb⟩; have qB2 := kn_b (w0 := w) hb; have qC2 : Kn (CL _ [⟨w.heap.size, 0, none⟩, ⟨w.heap.size, 1, none⟩, ⟨w.heap.size, 2, none⟩, ⟨w.heap.size, 3, none⟩, ⟨w.heap.size + 1, 0, none⟩, ⟨w.heap.size + 1, 1, none⟩] [.bool (decide (n < 0)), .slice A (dig n.natAbs).length c, .bool (decide (dd < 0)), .slice D (dig dd.natAbs).length d, .int .i64 0, .int .i64 0]) := kn_c hb; obtain ⟨q2_0, q2_1, q2_2, q2_3, q2_4, q2_5, -⟩ := qC2.out; have qF2 : Kn (FZ _ [⟨w.heap.size + 1, 0, none⟩, ⟨w.heap.size + 1, 1, none⟩]) := kn_f hb; obtain ⟨⟨-, f2_0⟩, ⟨-, f2_1⟩, -⟩ := qF2.out; clear hb))
    exact bodyPost_ret (v := .tuple #[.agg #[.int .i64 0, .int .i64 0], .bool false]) (by simp [results, Try.results46, go_sem, q2_4, q2_5]) rfl ⟨rfl, below_set (below_set qB2.out (Nat.le_succ _)) (Nat.le_succ _)⟩
theorem small_bound {z : Int} (h : isSmall z = true) : -9223372036854775808 ≤ z ∧ z ≤ 9223372036854775807 := by
  have : z.natAbs < 4611686018427387904 := by simpa [isSmall] using h
  omega
theorem smallI_of {z : Int} (h : isSmall z = true) : smallI z = z := by unfold smallI; rw [if_pos h]
theorem one_q (w : World) (a0 a1 : Value) (T : TypeId) : ∃ W g, W = w.alloc (.cells #[a0, a1] T) ∧ g = w.heap.size ∧ W.cell? ⟨g, 0, none⟩ = some a0 ∧ W.cell? ⟨g, 1, none⟩ = some a1 ∧ Below w.heap.size w W :=
  ⟨_, _, rfl, rfl, c_new rfl rfl, c_new rfl rfl, below_alloc (Below.refl _ _) _⟩
set_option maxHeartbeats 4000000 in
set_option maxRecDepth 100000 in
theorem ftoq_pos (isq : Int → Int → Bool) (mk : Int → Int → Int × Int) (hi : IsCalls isq) (hk : MakeCalls mk) (hm : ∀ n d, (-9223372036854775808 ≤ (mk n d).1 ∧ (mk n d).1 ≤ 9223372036854775807) ∧ (-9223372036854775808 ≤ (mk n d).2 ∧ (mk n d).2 ≤ 9223372036854775807)) (w : World) (P : Nat → Prop) (v : Value) (q : Rat) (h : BF w P v q) (hz : q.num ≠ 0) (h1 : isSmall q.num = true) (h2 : isSmall q.den = true) (m : Int × Int) (hmm : mk q.num q.den = m) (b : Bool) (hb : isq m.1 m.2 = b) :
    Calls Try.prog 46 #[v] w fun e w' => e = .returned (.tuple #[.agg #[.int .i64 m.1, .int .i64 m.2], .bool b]) ∧ Below w.heap.size w w' := by
  have hmb := hm q.num q.den
  rw [hmm] at hmb
  obtain ⟨A, D, c, d, n, dd, rfl, hp⟩ := h.low.parts
  rw [← hp.den_is hz] at h2 hmm
  rw [hp.isnum] at h1 hmm
  have HP := Aside0.mk hp
  obtain ⟨sa, hsa⟩ : ∃ s, q.num.sign = s := ⟨_, rfl⟩
  have hs1 : (sa == 0) = false := by rw [beq_eq_false_iff_ne, ← hsa, Ne, Int.sign_eq_zero_iff_zero]; exact hz
  have SA := Aside0.mk hsa
  have HI := Aside0.mk hi
  have HK := Aside0.mk hk
  have HM1 := Aside0.mk hmb.1
  have HM2 := Aside0.mk hmb.2
  have HMM := Aside0.mk hmm
  have HB := Aside0.mk hb
  have hr1 := smallI_of h1
  have hr2 := smallI_of h2
  have N1 := Aside0.mk (small_bound h1)
  have N2 := Aside0.mk (small_bound h2)
  clear h hp hz hsa hi hk hm hmb hmm hb
  obtain ⟨m1, m2⟩ := m
  simp only at HM1 HM2 HB ⊢
  go_enter Try.func46, Try.ntmps46
  go_upto_region 8 with (first | (go_at_call 54; (with_reducible refine (fsign_any _ _ _ q sa (HP.out.bf.below ?hb1) SA.out).mono ?_); (case hb1 => first | exact Kn.out | with_reducible exact Aside0.out ‹_›); rintro e w1 ⟨rfl, hb⟩; have qB0 := kn_b (w0 := w) hb; have qC0 : Kn (CL _ [⟨w.heap.size, 0, none⟩, ⟨w.heap.size, 1, none⟩, ⟨w.heap.size, 2, none⟩, ⟨w.heap.size, 3, none⟩, ⟨w.heap.size + 1, 0, none⟩, ⟨w.heap.size + 1, 1, none⟩] [.bool (decide (n < 0)), .slice A (dig n.natAbs).length c, .bool (decide (dd < 0)), .slice D (dig dd.natAbs).length d, .int .i64 0, .int .i64 0]) := kn_c hb; obtain ⟨q0_0, q0_1, q0_2, q0_3, q0_4, q0_5, -⟩ := qC0.out; have qF0 : Kn (FZ _ [⟨w.heap.size + 1, 0, none⟩, ⟨w.heap.size + 1, 1, none⟩]) := kn_f hb; obtain ⟨⟨-, f0_0⟩, ⟨-, f0_1⟩, -⟩ := qF0.out; clear hb) | (go_at_call 59; (with_reducible refine (small_any _ _ _ n (HP.out.num.below ?hb2)).mono ?_); (case hb2 => first | exact Kn.out | with_reducible exact Aside0.out ‹_›); rintro e w2 ⟨rfl, hb⟩; have qB1 := kn_b (w0 := w) hb; have qC1 : Kn (CL _ [⟨w.heap.size, 0, none⟩, ⟨w.heap.size, 1, none⟩, ⟨w.heap.size, 2, none⟩, ⟨w.heap.size, 3, none⟩, ⟨w.heap.size + 1, 0, none⟩, ⟨w.heap.size + 1, 1, none⟩] [.bool (decide (n < 0)), .slice A (dig n.natAbs).length c, .bool (decide (dd < 0)), .slice D (dig dd.natAbs).length d, .int .i64 0, .int .i64 0]) := kn_c hb; obtain ⟨q1_0, q1_1, q1_2, q1_3, q1_4, q1_5, -⟩ := qC1.out; have qF1 : Kn (FZ _ [⟨w.heap.size + 1, 0, none⟩, ⟨w.heap.size + 1, 1, none⟩]) := kn_f hb; obtain ⟨⟨-, f1_0⟩, ⟨-, f1_1⟩, -⟩ := qF1.out; clear hb) | (go_at_call 59; (with_reducible refine (small_any _ _ _ dd (HP.out.den.below ?hb3)).mono ?_); (case hb3 => first | exact Kn.out | with_reducible exact Aside0.out ‹_›); rintro e w3 ⟨rfl, hb⟩; have qB2 := kn_b (w0 := w) hb; have qC2 : Kn (CL _ [⟨w.heap.size, 0, none⟩, ⟨w.heap.size, 1, none⟩, ⟨w.heap.size, 2, none⟩, ⟨w.heap.size, 3, none⟩, ⟨w.heap.size + 1, 0, none⟩, ⟨w.heap.size + 1, 1, none⟩] [.bool (decide (n < 0)), .slice A (dig n.natAbs).length c, .bool (decide (dd < 0)), .slice D (dig dd.natAbs).length d, .int .i64 0, .int .i64 0]) := kn_c hb; obtain ⟨q2_0, q2_1, q2_2, q2_3, q2_4, q2_5, -⟩ := qC2.out; have qF2 : Kn (FZ _ [⟨w.heap.size + 1, 0, none⟩, ⟨w.heap.size + 1, 1, none⟩]) := kn_f hb; obtain ⟨⟨-, f2_0⟩, ⟨-, f2_1⟩, -⟩ := qF2.out; clear hb) | (go_at_call 41; (with_reducible refine (make_by HK.out _ n dd N1.out N2.out (m1, m2) HMM.out).mono ?_); rintro e w4 ⟨rfl, hb⟩; have qB3 := kn_b (w0 := w) hb; have qC3 : Kn (CL _ [⟨w.heap.size, 0, none⟩, ⟨w.heap.size, 1, none⟩, ⟨w.heap.size, 2, none⟩, ⟨w.heap.size, 3, none⟩, ⟨w.heap.size + 1, 0, none⟩, ⟨w.heap.size + 1, 1, none⟩] [.bool (decide (n < 0)), .slice A (dig n.natAbs).length c, .bool (decide (dd < 0)), .slice D (dig dd.natAbs).length d, .int .i64 0, .int .i64 0]) := kn_c hb; obtain ⟨q3_0, q3_1, q3_2, q3_3, q3_4, q3_5, -⟩ := qC3.out; have qF3 : Kn (FZ _ [⟨w.heap.size + 1, 0, none⟩, ⟨w.heap.size + 1, 1, none⟩]) := kn_f hb; obtain ⟨⟨-, f3_0⟩, ⟨-, f3_1⟩, -⟩ := qF3.out; clear hb))
  obtain ⟨w5, g, hw5, hg, y0, y1, hb5⟩ := one_q w4 (.int .i64 m1) (.int .i64 m2) 46
  rw [← hw5, ← hg]
  have qB4 := Kn.mk (below_step qB3.out hb5); have f4_0 := kf hb5 q3_4 f3_0; have f4_1 := kf hb5 q3_5 f3_1; have q4_0 := kc hb5 q3_0; have q4_1 := kc hb5 q3_1; have q4_2 := kc hb5 q3_2; have q4_3 := kc hb5 q3_3; have q4_4 := kc hb5 q3_4; have q4_5 := kc hb5 q3_5; have qC4 : Kn (CL _ [⟨w.heap.size, 0, none⟩, ⟨w.heap.size, 1, none⟩, ⟨w.heap.size, 2, none⟩, ⟨w.heap.size, 3, none⟩, ⟨w.heap.size + 1, 0, none⟩, ⟨w.heap.size + 1, 1, none⟩] [.bool (decide (n < 0)), .slice A (dig n.natAbs).length c, .bool (decide (dd < 0)), .slice D (dig dd.natAbs).length d, .int .i64 0, .int .i64 0]) := ⟨cl_c q4_0 (cl_c q4_1 (cl_c q4_2 (cl_c q4_3 (cl_c q4_4 (cl_c q4_5 (cl_n _))))))⟩; have qF4 : Kn (FZ _ [⟨w.heap.size + 1, 0, none⟩, ⟨w.heap.size + 1, 1, none⟩]) := ⟨fz_c (World.block_lt_of_cell? _ _ q4_4) f4_0 (fz_c (World.block_lt_of_cell? _ _ q4_5) f4_1 (fz_n _))⟩
  have x4_0 := y0
  have x4_1 := y1
  have hne : g ≠ w.heap.size + 1 := by
    have : w.heap.size + 1 < w4.heap.size := World.block_lt_of_cell? _ _ q3_5
    omega
  clear hw5 hg hb5 y0 y1
  go_region_held3 (fun W => W.cell? ⟨w.heap.size, 0, none⟩ = some (.bool (decide (n < 0))) ∧ W.cell? ⟨w.heap.size, 1, none⟩ = some (.slice A (dig n.natAbs).length c) ∧ W.cell? ⟨w.heap.size, 2, none⟩ = some (.bool (decide (dd < 0))) ∧ W.cell? ⟨w.heap.size, 3, none⟩ = some (.slice D (dig dd.natAbs).length d) ∧ W.cell? (⟨g, 0, none⟩) = some (.int .i64 m1) ∧ W.cell? (⟨g, 1, none⟩) = some (.int .i64 m2) ∧ Kn (Below w.heap.size w W)) (((repeat' apply And.intro) <;> first | with_reducible assumption | exact Kn.out | infer_instance | ((try (with_reducible refine c_drew ?_)); (repeat' (first | with_reducible refine kset Kn.out ?_ | with_reducible refine kset ‹_› ?_ | with_reducible refine c_low' ?_)); with_reducible assumption))) ((first | (go_at_call 40; (with_reducible refine (is_by HI.out _ m1 m2 HM1.out HM2.out).mono ?_); rintro e w6 ⟨rfl, hb⟩; have qB5 := kn_b (w0 := w) hb; have qC5 : Kn (CL _ [⟨w.heap.size, 0, none⟩, ⟨w.heap.size, 1, none⟩, ⟨w.heap.size, 2, none⟩, ⟨w.heap.size, 3, none⟩, ⟨w.heap.size + 1, 0, none⟩, ⟨w.heap.size + 1, 1, none⟩] [.bool (decide (n < 0)), .slice A (dig n.natAbs).length c, .bool (decide (dd < 0)), .slice D (dig dd.natAbs).length d, .int .i64 0, .int .i64 0]) := kn_c hb; obtain ⟨q5_0, q5_1, q5_2, q5_3, q5_4, q5_5, -⟩ := qC5.out; have qF5 : Kn (FZ _ [⟨w.heap.size + 1, 0, none⟩, ⟨w.heap.size + 1, 1, none⟩]) := kn_f hb; obtain ⟨⟨-, f5_0⟩, ⟨-, f5_1⟩, -⟩ := qF5.out; have x5_0 := kc (p := ⟨g, 0, none⟩) (v := .int .i64 m1) hb (by first | with_reducible assumption | (with_reducible refine c_low' ?_; with_reducible assumption) | (with_reducible refine c_drew ?_; with_reducible assumption) | (with_reducible refine c_drew (c_low' ?_); with_reducible assumption) | (with_reducible refine c_low' (c_low' (?_)); with_reducible assumption) | (with_reducible refine c_drew (c_low' (c_low' (?_))); with_reducible assumption)); have x5_1 := kc (p := ⟨g, 1, none⟩) (v := .int .i64 m2) hb (by first | with_reducible assumption | (with_reducible refine c_low' ?_; with_reducible assumption) | (with_reducible refine c_drew ?_; with_reducible assumption) | (with_reducible refine c_drew (c_low' ?_); with_reducible assumption) | (with_reducible refine c_low' (c_low' (?_)); with_reducible assumption) | (with_reducible refine c_drew (c_low' (c_low' (?_))); with_reducible assumption)); clear hb)))
  go_wp2
  have hB : isq m1 m2 = b := HB.out
  exact bodyPost_ret (v := .tuple #[.agg #[.int .i64 m1, .int .i64 m2], .bool b]) (by rw [← hB]; simp [results, Try.results46, go_sem, q5_4, q5_5]) rfl ⟨rfl, below_set (below_set qB5.out (Nat.le_succ _)) (Nat.le_succ _)⟩
theorem ftoq_any (isq : Int → Int → Bool) (mk : Int → Int → Int × Int) (hi : IsCalls isq) (hk : MakeCalls mk) (hm : ∀ n d, (-9223372036854775808 ≤ (mk n d).1 ∧ (mk n d).1 ≤ 9223372036854775807) ∧ (-9223372036854775808 ≤ (mk n d).2 ∧ (mk n d).2 ≤ 9223372036854775807)) (w : World) (P : Nat → Prop) (v : Value) (q : Rat) (h : BF w P v q) :
    Calls Try.prog 46 #[v] w fun e w' => e = .returned (.tuple #[.agg #[.int .i64 (toQ isq mk q).1.1, .int .i64 (toQ isq mk q).1.2], .bool (toQ isq mk q).2]) ∧ Below w.heap.size w w' := by
  unfold toQ
  by_cases hz : q.num = 0
  · rw [if_pos hz]; exact ftoq_zero isq mk w P v q h hz
  · rw [if_neg hz]
    by_cases hs : isSmall q.num = true ∧ isSmall q.den = true
    · rw [if_pos hs]; exact ftoq_pos isq mk hi hk hm w P v q h hz hs.1 hs.2 _ rfl _ rfl
    · rw [if_neg hs]; exact ftoq_big isq mk w P v q h hz hs
end Go.Proofs.Ytlaidcoickeihaa.Nb
namespace Go.Proofs.Ytlaidcoickeihaa.Nb
open Go.RowKit Go.Proofs.Ytlaidcoickeihaa.Wd.PrintWords Go.Proofs.Ytlaidcoickeihaa.Wd.PrintLast Go.Proofs.Ytlaidcoickeihaa.Wd.PrintMore Go.Proofs.Ytlaidcoickeihaa.Big
set_option synthInstance.maxSize 2000
set_option synthInstance.maxHeartbeats 400000
set_option maxHeartbeats 4000000 in
set_option maxRecDepth 100000 in
theorem rtrimmed_any (w : World) (A : Option Addr) (c : Nat) (l : List Int) (h : Wd w A l) (d : Dg l) (hc : l.length ≤ c) :
    Calls Try.prog 82 #[.slice A l.length c] w fun e w' => e = .returned (.slice A (dig (val l).toNat).length c) ∧ Drawn0 w w' := by
  have hl := wd_len h
  have H := Aside0.mk h
  have D := Aside0.mk d
  clear h d
  go_enter Try.func82, Try.ntmps82
  go_wp2
  go_loopw [3] (fun v3 W => ∃ m : Nat, m ≤ l.length ∧ v3 = .int .i64 m ∧ Aside0 (val (l.take m) = val l) ∧ Drawn0 w W) (fun v3 _ => (intOf v3).toNat)
  case atStart => exact ⟨l.length, Nat.le_refl _, rfl, ⟨by rw [List.take_length]⟩, Drawn0.refl _⟩
  case round =>
    obtain ⟨m, hm, rfl, HV, ⟨nw, rfl⟩⟩ := hrel
    cases m with
    | zero =>
      have HD := Aside0.mk (dig_take D.out 0 HV.out (by intro x hx; simp at hx))
      go_wp2
      go_ret
      exact ⟨by rw [HD.out]; simp, ⟨_, rfl⟩⟩
    | succ k =>
      obtain ⟨ad, rfl, x0⟩ := wd_at H.out k (by omega)
      have HE := Aside0.mk (val_take_succ l k)
      have HK := Aside0.mk (show k < l.length by omega)
      have hlast : l[k]? = some (l.getD k 0) := by rw [List.getD_eq_getElem?_getD, List.getElem?_eq_getElem (show k < l.length by omega)]; rfl
      have HL := Aside0.mk hlast
      clear hlast
      generalize l.getD k 0 = x at *
      by_cases hx : x = 0
      · subst hx
        go_wp2
        go_roundw
        case rel => exact ⟨k, by omega, by go_num, ⟨by rw [← HV.out, HE.out]; simp⟩, ⟨nw, rfl⟩⟩
        case measure => simp [intOf]
      · have HX := Aside0.mk hx
        have hxb : (x == 0) = false := by simpa using hx
        clear hx
        have HD := Aside0.mk (dig_take D.out (k + 1) HV.out (by
          intro y hy
          rw [List.getLast?_take, if_neg (by omega), Nat.add_sub_cancel, HL.out] at hy
          simp at hy
          rw [← hy]; exact HX.out))
        go_wp2
        go_ret
        exact ⟨by rw [HD.out, List.length_take, Nat.min_eq_left hm]; simp, ⟨_, rfl⟩⟩
set_option maxHeartbeats 4000000 in
set_option maxRecDepth 100000 in
theorem rsize_any (w : World) (A0 A1 : Option Addr) (c0 c1 : Nat) (a b : List Int) (h0 : Wd w A0 a) (h1 : Wd w A1 b) (d0 : Dg a) (d1 : Dg b) :
    Calls Try.prog 90 #[.slice A0 a.length c0, .slice A1 b.length c1] w fun e w' => e = .returned (.int .i64 (sizeI a b)) ∧ Drawn0 w w' := by
  have l0 := wd_len h0
  have l1 := wd_len h1
  have H0 := Aside0.mk h0
  have H1 := Aside0.mk h1
  have D0 := Aside0.mk d0
  have D1 := Aside0.mk d1
  clear h0 h1 d0 d1
  by_cases hl : a.length = b.length
  · have hlb : (a.length == b.length) = true := by simpa using hl
    have HL := Aside0.mk hl
    clear hl
    go_enter Try.func90, Try.ntmps90
    go_wp2
    go_loopw [5] (fun v5 W => ∃ j : Nat, j ≤ a.length ∧ v5 = .int .i64 ((j : Int) - 1) ∧ Aside0 (a.drop j = b.drop j) ∧ Drawn0 w W) (fun v5 _ => (intOf v5 + 1).toNat)
    case atStart => exact ⟨a.length, Nat.le_refl _, rfl, ⟨by rw [List.drop_length, HL.out, List.drop_length]⟩, Drawn0.refl _⟩
    case round =>
      obtain ⟨j, hj, rfl, HE, ⟨nw, rfl⟩⟩ := hrel
      cases j with
      | zero =>
        have HE' := Aside0.mk (show a = b by simpa using HE.out)
        go_wp2
        go_ret
        exact ⟨by rw [HE'.out]; simp [sizeI, cmpI], ⟨_, rfl⟩⟩
      | succ m =>
        rw [show ((m + 1 : Nat) : Int) - 1 = (m : Int) by omega]
        obtain ⟨ad0, e0, x0⟩ := wd_at H0.out m (by omega)
        obtain ⟨ad1, e1, x1⟩ := wd_at H1.out m (by have := HL.out; omega)
        subst e0 e1
        have q1 : m < a.length := by omega
        have q2 : m < b.length := by have := HL.out; omega
        have y0 := dg_get D0.out m
        have y1 := dg_get D1.out m
        have HD0 := Aside0.mk (show a.drop m = a.getD m 0 :: a.drop (m + 1) by rw [List.drop_eq_getElem_cons q1, List.getD_eq_getElem?_getD, List.getElem?_eq_getElem q1]; rfl)
        have HD1 := Aside0.mk (show b.drop m = b.getD m 0 :: b.drop (m + 1) by rw [List.drop_eq_getElem_cons q2, List.getD_eq_getElem?_getD, List.getElem?_eq_getElem q2]; rfl)
        have HG0 := Aside0.mk (fun h => val_cmp D0.out D1.out HL.out m q1 HE.out h)
        have HG1 := Aside0.mk (fun h => val_cmp D1.out D0.out HL.out.symm m q2 HE.out.symm h)
        generalize a.getD m 0 = x at *
        generalize b.getD m 0 = y at *
        rcases Int.lt_trichotomy x y with c1 | c1 | c1
        · have HR := Aside0.mk (show sizeI a b = -1 by have := HG0.out c1; rw [sizeI, if_neg (by rw [HL.out]; omega), if_neg (by rw [HL.out]; omega), cmpI, if_pos this])
          go_wp2
          go_quiet (fail)
          go_wp2
          go_ret
          exact ⟨by rw [HR.out]; rfl, dr2 _ _ _⟩
        · subst c1
          go_wp2
          go_quiet (fail)
          go_wp2
          go_quiet (fail)
          go_wp2
          go_roundw
          case rel => exact ⟨m, by omega, by go_num, ⟨by rw [HD0.out, HD1.out, HE.out]⟩, ⟨_, rfl⟩⟩
          case measure => simp [intOf]
        · have HR := Aside0.mk (show sizeI a b = 1 by have := HG1.out c1; rw [sizeI, if_neg (by rw [HL.out]; omega), if_neg (by rw [HL.out]; omega), cmpI, if_neg (by omega), if_pos this])
          have k2 : decide (x < y) = false := by rw [decide_eq_false_iff_not]; omega
          go_wp2
          go_quiet (fail)
          go_wp2
          go_quiet (fail)
          go_wp2
          go_ret
          exact ⟨by rw [HR.out]; rfl, dr3 _ _ _ _⟩
  · have hlb : (a.length == b.length) = false := by simpa using hl
    by_cases c : a.length < b.length
    · have HR := Aside0.mk (show sizeI a b = -1 by rw [sizeI, if_pos c])
      go_enter Try.func90, Try.ntmps90
      go_wp2
      go_ret
      exact ⟨by rw [HR.out]; rfl, ⟨0, rfl⟩⟩
    · have HR := Aside0.mk (show sizeI a b = 1 by rw [sizeI, if_neg c, if_pos (by omega)])
      have k2 : decide (a.length < b.length) = false := by simpa using c
      go_enter Try.func90, Try.ntmps90
      go_wp2
      go_ret
      exact ⟨by rw [HR.out]; rfl, ⟨0, rfl⟩⟩
end Go.Proofs.Ytlaidcoickeihaa.Nb
namespace Go.Proofs.Ytlaidcoickeihaa.Nb
open Go.RowKit Go.Proofs.Ytlaidcoickeihaa.Wd.PrintWords Go.Proofs.Ytlaidcoickeihaa.Wd.PrintLast Go.Proofs.Ytlaidcoickeihaa.Wd.PrintMore Go.Proofs.Ytlaidcoickeihaa.Big
set_option synthInstance.maxSize 2000
set_option synthInstance.maxHeartbeats 400000
def NewD (w : World) (n : Nat) (e : Ending) (w' : World) : Prop :=
  ∃ g c, e = .returned (.slice (some ⟨g, 0, none⟩) (dig n).length c) ∧ w.heap.size ≤ g ∧ (dig n).length ≤ c ∧ Wd w' (some ⟨g, 0, none⟩) (dig n) ∧ Below w.heap.size w w'
theorem NewD.of {w w1 w2 : World} {g : Nat} {xs : List Int} {n : Nat} (ho : Own w1 g xs) (hd : Dg xs) (hv : val xs = n) (hl : xs.length ≤ 9223372036854775807) (hg : w.heap.size ≤ g) (hb : Below w.heap.size w w1) (h : Drawn0 w1 w2) :
    NewD w n (.returned (.slice (some ⟨g, 0, none⟩) (dig (val xs).toNat).length xs.length)) w2 := by
  have e : (val xs).toNat = n := by omega
  refine ⟨g, xs.length, by rw [e], hg, by rw [← e]; exact dig_len_pre hd, ?_, below_step hb h.below⟩
  rw [← e]; exact wd_dig (wd_below (ho.wd hl) h.below) hd
theorem u64_le (n : Int) (h : 0 ≤ n ∧ n < 18446744073709551616) : IntKind.u64.wrap n = n := IntWalk.u64_in _ (by omega)
set_option maxHeartbeats 4000000 in
set_option maxRecDepth 100000 in
theorem rtogether_ge (w : World) (A0 A1 : Option Addr) (c0 c1 : Nat) (a b : List Int) (h0 : Wd w A0 a) (h1 : Wd w A1 b) (d0 : Dg a) (d1 : Dg b) (hn : a.length ≤ 70368744177000) (hl : b.length ≤ a.length) :
    Calls Try.prog 89 #[.slice A0 a.length c0, .slice A1 b.length c1] w (NewD w (val a + val b).toNat) := by
  have H0 := Aside0.mk h0
  have H1 := Aside0.mk h1
  have D0 := Aside0.mk d0
  have D1 := Aside0.mk d1
  have HL := Aside0.mk hl
  clear h0 h1 d0 d1
  have hlb : decide (a.length < b.length) = false := decide_eq_false (by omega)
  have hmk := mk_words ((a.length : Int) + 1) (by omega) (by omega)
  go_enter Try.func89, Try.ntmps89
  go_wp2
  clear hmk
  go_loopw [6, 23] (fun v6 v23 W => ∃ (i : Nat) (c : Int) (xs : List Int), v6 = .int .u64 c ∧ v23 = .int .i64 i ∧ i ≤ a.length ∧ Aside0 (0 ≤ c ∧ c ≤ 1) ∧ Aside0 (Fill w w.heap.size (a.length + 1) i xs W) ∧ Aside0 (val xs + c * 4294967296 ^ i = val (a.take i) + val (b.take i))) (fun _ v23 _ => a.length - (intOf v23).toNat)
  case atStart => exact ⟨0, 0, _, rfl, rfl, Nat.zero_le _, ⟨by omega⟩, ⟨Fill.start _ _⟩, ⟨by simp [val_replicate, val_nil]⟩⟩
  case round =>
    obtain ⟨i, c, xs, rfl, rfl, hi, HC, HF, HV⟩ := hrel
    obtain ⟨hc0, hc1⟩ := HC.out
    by_cases hlt : i < a.length
    · obtain ⟨ad0, e0, x0⟩ := wd_at (wd_below H0.out HF.out.below) i hlt
      subst e0
      have y0 := dg_get D0.out i
      have o0 := HF.out.own.cell i (by rw [HF.out.len]; omega)
      have f0 := HF.out.own.frozen i
      have HA := Aside0.mk (val_take_succ a i)
      have HB := Aside0.mk (val_take_succ b i)
      generalize a.getD i 0 = x at *
      by_cases hlb2 : i < b.length
      · obtain ⟨ad1, e1, x1⟩ := wd_at (wd_below H1.out HF.out.below) i hlb2
        subst e1
        have y1 := dg_get D1.out i
        generalize b.getD i 0 = y at *
        have hs : IntKind.u64.wrap (IntKind.u64.wrap (x + c) + y) = x + c + y := by rw [u64_le (x + c) (by omega)]; exact u64_le _ (by omega)
        go_wp2
        go_roundw
        case rel => exact ⟨i + 1, (x + c + y) / 4294967296, xs.set i ((x + c + y) % 4294967296), rfl, by go_num, by omega, ⟨by omega⟩, ⟨HF.out.put _ (by omega)⟩, ⟨by rw [HF.out.val (by omega), HA.out, HB.out, Int.pow_succ]; have := plus_step (x := x) (y := y) HV.out; rw [show x + y + c = x + c + y by omega] at this; exact this⟩⟩
        case measure => simp [intOf]; omega
      · have hbz : b.getD i 0 = 0 := by rw [List.getD_eq_getElem?_getD, List.getElem?_eq_none (by omega)]; rfl
        have HB' := HB.out
        rw [hbz] at HB'
        clear HB hbz
        have HB := Aside0.mk HB'
        clear HB'
        go_wp2
        go_roundw
        case rel => exact ⟨i + 1, (x + c) / 4294967296, xs.set i ((x + c) % 4294967296), rfl, by go_num, by omega, ⟨by omega⟩, ⟨HF.out.put _ (by omega)⟩, ⟨by rw [HF.out.val (by omega), HA.out, HB.out, Int.pow_succ]; have := plus_step (x := x) (y := 0) HV.out; rw [Int.add_zero] at this; exact this⟩⟩
        case measure => simp [intOf]; omega
    · have HI := Aside0.mk (show i = a.length by omega)
      obtain rfl := HI.out
      have o0 := HF.out.own.cell a.length (by rw [HF.out.len]; omega)
      have f0 := HF.out.own.frozen a.length
      have HG := Aside0.mk (HF.out.put c (by omega))
      have hv : val (xs.set a.length c) = ((val a + val b).toNat : Nat) := by
        have hv := HV.out
        rw [List.take_length, List.take_of_length_le (by omega)] at hv
        have := val_nonneg D0.out
        have := val_nonneg D1.out
        rw [HF.out.val (by omega), Int.mul_comm, hv]; omega
      have HVV := Aside0.mk hv
      have hgl := HG.out.len
      have HGL := Aside0.mk hgl
      clear hv hgl
      go_wp2_with (go_at_call 82; rw [← HGL.out]; refine (rtrimmed_any _ (some ⟨w.heap.size, 0, none⟩) (xs.set a.length c).length (xs.set a.length c) (HG.out.own.wd ?hl2) HG.out.dg (Nat.le_refl _)).mono ?_; (case hl2 => rw [HGL.out]; omega); rintro e w2 ⟨rfl, hdr⟩; have HDR := Aside0.mk hdr; clear hdr)
      have hfin := NewD.of HG.out.own HG.out.dg HVV.out (by rw [HGL.out]; omega) HG.out.base HG.out.below HDR.out
      rw [List.length_set] at hfin
      exact bodyPost_ret (v := .slice (some ⟨w.heap.size, 0, none⟩) (dig (val (xs.set a.length c)).toNat).length xs.length) (by simp [results, Try.results89]) rfl hfin
theorem rtogether_any (w : World) (A0 A1 : Option Addr) (c0 c1 : Nat) (a b : List Int) (h0 : Wd w A0 a) (h1 : Wd w A1 b) (d0 : Dg a) (d1 : Dg b) (hn : a.length ≤ 70368744177000) (hm : b.length ≤ 70368744177000) :
    Calls Try.prog 89 #[.slice A0 a.length c0, .slice A1 b.length c1] w (NewD w (val a + val b).toNat) := by
  by_cases hl : b.length ≤ a.length
  · exact rtogether_ge w A0 A1 c0 c1 a b h0 h1 d0 d1 hn hl
  · have hlb : decide (a.length < b.length) = true := decide_eq_true (by omega)
    have H := Aside0.mk (rtogether_ge w A1 A0 c1 c0 b a h1 h0 d1 d0 hm (by omega))
    clear h0 h1 d0 d1 hl
    rw [show val a + val b = val b + val a from Int.add_comm _ _]
    go_enter Try.func89, Try.ntmps89
    go_wp2_with (go_at_call 89; refine H.out.mono ?_; rintro e w2 ⟨g, c, rfl, h1, h2, h3, h4⟩; have H1 := Aside0.mk h1; have H2 := Aside0.mk h2; have H3 := Aside0.mk h3; have H4 := Aside0.mk h4; clear h1 h2 h3 h4)
    exact bodyPost_ret (v := .slice (some ⟨g, 0, none⟩) (dig (val b + val a).toNat).length c) (by simp [results, Try.results89]) rfl ⟨g, c, rfl, H1.out, H2.out, H3.out, H4.out⟩
set_option maxHeartbeats 4000000 in
set_option maxRecDepth 100000 in
theorem rapart_any (w : World) (A0 A1 : Option Addr) (c0 c1 : Nat) (a b : List Int) (h0 : Wd w A0 a) (h1 : Wd w A1 b) (d0 : Dg a) (d1 : Dg b) (hn : a.length ≤ 70368744177000) (hb : b.length ≤ a.length) (hle : val b ≤ val a) :
    Calls Try.prog 91 #[.slice A0 a.length c0, .slice A1 b.length c1] w (NewD w (val a - val b).toNat) := by
  have H0 := Aside0.mk h0
  have H1 := Aside0.mk h1
  have D0 := Aside0.mk d0
  have D1 := Aside0.mk d1
  have HLE := Aside0.mk hle
  have HBL := Aside0.mk hb
  clear h0 h1 d0 d1 hle hb
  have hmk := mk_words (a.length : Int) (by omega) (by omega)
  go_enter Try.func91, Try.ntmps91
  go_wp2
  clear hmk
  go_loopw [6, 14] (fun v6 v14 W => ∃ (i : Nat) (c : Int) (xs : List Int), v6 = .int .i64 c ∧ v14 = .int .i64 i ∧ i ≤ a.length ∧ Aside0 (0 ≤ c ∧ c ≤ 1) ∧ Aside0 (Fill w w.heap.size a.length i xs W) ∧ Aside0 (val xs - c * 4294967296 ^ i = val (a.take i) - val (b.take i))) (fun _ v14 _ => a.length - (intOf v14).toNat)
  case atStart => exact ⟨0, 0, _, rfl, rfl, Nat.zero_le _, ⟨by omega⟩, ⟨Fill.start _ _⟩, ⟨by simp [val_replicate, val_nil]⟩⟩
  case round =>
    obtain ⟨i, c, xs, rfl, rfl, hi, HC, HF, HV⟩ := hrel
    obtain ⟨hc0, hc1⟩ := HC.out
    by_cases hlt : i < a.length
    · obtain ⟨ad0, e0, x0⟩ := wd_at (wd_below H0.out HF.out.below) i hlt
      subst e0
      have y0 := dg_get D0.out i
      have o0 := HF.out.own.cell i (by rw [HF.out.len]; exact hlt)
      have f0 := HF.out.own.frozen i
      have HA := Aside0.mk (val_take_succ a i)
      have HB := Aside0.mk (val_take_succ b i)
      generalize a.getD i 0 = x at *
      have YL : ∃ y, b.getD i 0 = y ∧ (0 ≤ y ∧ y < 4294967296) ∧ (i < b.length ∨ y = 0) := ⟨_, rfl, dg_get D1.out i, by
        by_cases h : i < b.length
        · exact .inl h
        · exact .inr (by rw [List.getD_eq_getElem?_getD, List.getElem?_eq_none (by omega)]; rfl)⟩
      by_cases hlb : i < b.length
      · obtain ⟨ad1, e1, x1⟩ := wd_at (wd_below H1.out HF.out.below) i hlb
        subst e1
        clear YL
        have y1 := dg_get D1.out i
        generalize b.getD i 0 = y at *
        by_cases hs : x - c - y < 0
        · go_wp2
          go_roundw
          case rel => exact ⟨i + 1, 1, xs.set i (x - c - y + 4294967296), rfl, by go_num, by omega, ⟨by omega⟩, ⟨HF.out.put _ (by omega)⟩, ⟨by
            rw [HF.out.val hlt, HA.out, HB.out, Int.pow_succ]
            have := less_step y0 y1 HC.out HV.out
            rw [show (x - y - c) % 4294967296 = x - c - y + 4294967296 by omega, show borrowI x y c = 1 by unfold borrowI; rw [if_pos (by omega)]] at this
            exact this⟩⟩
          case measure => simp [intOf]; omega
        · go_wp2
          go_roundw
          case rel => exact ⟨i + 1, 0, xs.set i (x - c - y), rfl, by go_num, by omega, ⟨by omega⟩, ⟨HF.out.put _ (by omega)⟩, ⟨by
            rw [HF.out.val hlt, HA.out, HB.out, Int.pow_succ]
            have := less_step y0 y1 HC.out HV.out
            rw [show (x - y - c) % 4294967296 = x - c - y by omega, show borrowI x y c = 0 by unfold borrowI; rw [if_neg (by omega)]] at this
            exact this⟩⟩
          case measure => simp [intOf]; omega
      · have hbz : b.getD i 0 = 0 := by rw [List.getD_eq_getElem?_getD, List.getElem?_eq_none (by omega)]; rfl
        have HB' := HB.out
        rw [hbz] at HB'
        clear HB hbz YL
        have HB := Aside0.mk HB'
        clear HB'
        by_cases hs : x - c < 0
        · go_wp2
          go_roundw
          case rel => exact ⟨i + 1, 1, xs.set i (x - c + 4294967296), rfl, by go_num, by omega, ⟨by omega⟩, ⟨HF.out.put _ (by omega)⟩, ⟨by
            rw [HF.out.val hlt, HA.out, HB.out, Int.pow_succ]
            have := less_step y0 (show (0 : Int) ≤ 0 ∧ (0 : Int) < 4294967296 by omega) HC.out HV.out
            rw [show (x - 0 - c) % 4294967296 = x - c + 4294967296 by omega, show borrowI x 0 c = 1 by unfold borrowI; rw [if_pos (by omega)]] at this
            exact this⟩⟩
          case measure => simp [intOf]; omega
        · go_wp2
          go_roundw
          case rel => exact ⟨i + 1, 0, xs.set i (x - c), rfl, by go_num, by omega, ⟨by omega⟩, ⟨HF.out.put _ (by omega)⟩, ⟨by
            rw [HF.out.val hlt, HA.out, HB.out, Int.pow_succ]
            have := less_step y0 (show (0 : Int) ≤ 0 ∧ (0 : Int) < 4294967296 by omega) HC.out HV.out
            rw [show (x - 0 - c) % 4294967296 = x - c by omega, show borrowI x 0 c = 0 by unfold borrowI; rw [if_neg (by omega)]] at this
            exact this⟩⟩
          case measure => simp [intOf]; omega
    · have HI := Aside0.mk (show i = a.length by omega)
      obtain rfl := HI.out
      have hd : val xs = ((val a - val b).toNat : Nat) := by
        have hv := HV.out
        rw [List.take_length, List.take_of_length_le HBL.out] at hv
        have hx1 := val_lt HF.out.dg
        rw [HF.out.len] at hx1
        have := carry_none (val_nonneg HF.out.dg) hx1 HC.out (by have := HLE.out; omega) hv
        have := HLE.out
        omega
      have HVV := Aside0.mk hd
      have hgl := HF.out.len
      have HGL := Aside0.mk hgl
      clear hd hgl
      rw [← HGL.out]
      go_wp2_with (go_at_call 82; refine (rtrimmed_any _ (some ⟨w.heap.size, 0, none⟩) xs.length xs (HF.out.own.wd ?hl2) HF.out.dg (Nat.le_refl _)).mono ?_; (case hl2 => rw [HGL.out]; omega); rintro e w2 ⟨rfl, hdr⟩; have HDR := Aside0.mk hdr; clear hdr)
      exact bodyPost_ret (v := .slice (some ⟨w.heap.size, 0, none⟩) (dig (val xs).toNat).length xs.length) (by simp [results, Try.results91]) rfl (NewD.of HF.out.own HF.out.dg HVV.out (by rw [HGL.out]; omega) HF.out.base HF.out.below HDR.out)
end Go.Proofs.Ytlaidcoickeihaa.Nb
namespace Go.Proofs.Ytlaidcoickeihaa.Nb
open Go.RowKit Go.Proofs.Ytlaidcoickeihaa.Wd.PrintWords Go.Proofs.Ytlaidcoickeihaa.Wd.PrintLast Go.Proofs.Ytlaidcoickeihaa.Wd.PrintMore Go.Proofs.Ytlaidcoickeihaa.Big
set_option synthInstance.maxSize 2000
set_option synthInstance.maxHeartbeats 400000
theorem BI.of_wn {w : World} {P : Nat → Prop} {A : Option Addr} {c n : Nat} (h : WN w P A c n) (s : Bool) : BI w P (.agg #[.bool (s && decide (0 < (dig n).length)), .slice A (dig n).length c]) (sg s n) := by
  have hs : (s && decide (0 < (dig n).length)) = ((s && decide (0 < (dig n).length)) && decide (0 < n)) := by
    rw [dig_len_pos]; cases s <;> simp
  have := BI.of (P := P) h.wd h.cap h.ok hs
  rw [dig_len_pos] at this ⊢
  rw [show sg (s && decide (0 < n)) n = sg s n by unfold sg; cases s <;> simp; omega] at this
  exact this
set_option maxHeartbeats 4000000 in
set_option maxRecDepth 100000 in
theorem rsigned_any (w : World) (P : Nat → Prop) (s : Bool) (A : Option Addr) (c n : Nat) (h : WN w P A c n) :
    Calls Try.prog 88 #[.bool s, .slice A (dig n).length c] w fun e w' => ∃ v, e = .returned v ∧ BI w' P v (sg s n) ∧ Below w.heap.size w w' := by
  have H := Aside0.mk (BI.of_wn (h.below (below_alloc (Below.refl _ _) (.cells #[.bool (s && decide (0 < (dig n).length)), .slice A (dig n).length c] 106))) s)
  clear h
  cases s with
  | false =>
    go_enter Try.func88, Try.ntmps88
    go_wp2
    exact bodyPost_ret (v := .agg #[.bool false, .slice A (dig n).length c]) (by simp [results, Try.results88, go_sem]) rfl ⟨_, rfl, H.out, below_alloc (Below.refl _ _) _⟩
  | true =>
    go_enter Try.func88, Try.ntmps88
    go_wp2
    exact bodyPost_ret (v := .agg #[.bool (decide (0 < (dig n).length)), .slice A (dig n).length c]) (by simp [results, Try.results88, go_sem]) rfl ⟨_, rfl, by simpa using H.out, below_alloc (Below.refl _ _) _⟩
theorem sg_not (x : Int) : sg (!(decide (x < 0))) x.natAbs = -x := by
  unfold sg
  by_cases h : x < 0
  · rw [decide_eq_true h]; simp; omega
  · rw [decide_eq_false h]; simp; omega
set_option maxHeartbeats 4000000 in
set_option maxRecDepth 100000 in
theorem ropposite_any (w : World) (P : Nat → Prop) (v : Value) (x : Int) (h : BI w P v x) :
    Calls Try.prog 79 #[v] w fun e w' => ∃ u, e = .returned u ∧ BI w' P u (-x) ∧ Below w.heap.size w w' := by
  obtain ⟨A, c, rfl, hc, hw, ho⟩ := h.low
  have H := Aside0.mk (show WN w (fun k => P k ∧ k < w.heap.size) A c x.natAbs from ⟨hw, hc, ho⟩)
  have HX := Aside0.mk (sg_not x)
  clear h hc hw ho
  obtain ⟨s, hs⟩ : ∃ s : Bool, decide (x < 0) = s := ⟨_, rfl⟩
  have HS := Aside0.mk hs
  rw [hs]
  clear hs
  go_enter Try.func79, Try.ntmps79
  go_wp2_with (go_at_call 88; (with_reducible refine (rsigned_any _ _ (!s) A c x.natAbs (H.out.below ?hb1)).mono ?_); (case hb1 => first | exact Kn.out | with_reducible exact Aside0.out ‹_›); rintro e w1 ⟨v, rfl, hv, hb⟩; rw [← HS.out, HX.out] at hv; obtain ⟨z, hz⟩ : ∃ z : Int, z = -x := ⟨_, rfl⟩; rw [← hz] at hv; have HZ := Aside0.mk hz; have XV := Aside0.mk hv; obtain ⟨D, d, rfl, -⟩ := hv; clear hz; have qB0 := kn_b (w0 := w) hb; have qC0 : Kn (CL _ [⟨w.heap.size, 0, none⟩, ⟨w.heap.size, 1, none⟩, ⟨w.heap.size + 1, 0, none⟩, ⟨w.heap.size + 1, 1, none⟩] [.bool s, .slice A (dig x.natAbs).length c, .bool false, .slice none 0 0]) := kn_c hb; obtain ⟨q0_0, q0_1, q0_2, q0_3, -⟩ := qC0.out; have qF0 : Kn (FZ _ [⟨w.heap.size + 1, 0, none⟩, ⟨w.heap.size + 1, 1, none⟩]) := kn_f hb; obtain ⟨⟨-, f0_0⟩, ⟨-, f0_1⟩, -⟩ := qF0.out; clear hb)
  refine bodyPost_ret (v := .agg #[.bool (decide (z < 0)), .slice D (dig z.natAbs).length d]) (by simp [results, Try.results79, go_sem, q0_2, q0_3]) rfl ⟨_, rfl, ?_, below_set (below_set qB0.out (Nat.le_succ _)) (Nat.le_succ _)⟩
  rw [← HZ.out]
  exact ((XV.out.set' (p := ⟨w.heap.size + 1, 0, none⟩) (not_low (Nat.le_succ _)) _).set' (p := ⟨w.heap.size + 1, 1, none⟩) (not_low (Nat.le_succ _)) _).mono fun k hk => hk.1
theorem NewD.wn {w w' : World} {n : Nat} {e : Ending} (h : NewD w n e w') : ∃ (g c : Nat), e = .returned (.slice (some ⟨g, 0, none⟩) (dig n).length c) ∧ WN w' (fun k => w.heap.size ≤ k) (some ⟨g, 0, none⟩) c n ∧ Below w.heap.size w w' := by
  obtain ⟨g, c, rfl, h1, h2, h3, h4⟩ := h
  exact ⟨g, c, rfl, ⟨h3, h2, fun ad ha _ => by cases ha; exact h1⟩, h4⟩
theorem rsize_is (w : World) (A0 A1 : Option Addr) (c0 c1 : Nat) (a b : List Int) (r : Int) (h0 : Wd w A0 a) (h1 : Wd w A1 b) (d0 : Dg a) (d1 : Dg b) (hr : sizeI a b = r) :
    Calls Try.prog 90 #[.slice A0 a.length c0, .slice A1 b.length c1] w fun e w' => e = .returned (.int .i64 r) ∧ Below w.heap.size w w' :=
  (rsize_any w A0 A1 c0 c1 a b h0 h1 d0 d1).mono fun e w' h => ⟨hr ▸ h.1, h.2.below⟩
set_option maxHeartbeats 4000000 in
set_option maxRecDepth 100000 in
theorem rplus_same (w : World) (s : Bool) (m n : Nat) (A0 A1 : Option Addr) (c0 c1 : Nat) (h0 : Wd w A0 (dig m)) (h1 : Wd w A1 (dig n)) (hm : (dig m).length ≤ 35184372088832) (hn : (dig n).length ≤ 35184372088832) :
    Calls Try.prog 77 #[.agg #[.bool s, .slice A0 (dig m).length c0], .agg #[.bool s, .slice A1 (dig n).length c1]] w (NewI w (fun k => w.heap.size ≤ k) (sg s m + sg s n)) := by
  have H0 := Aside0.mk h0
  have H1 := Aside0.mk h1
  have D0 := Aside0.mk (dig_dg m)
  have D1 := Aside0.mk (dig_dg n)
  have hm2 := Aside0.mk (show (dig m).length ≤ 70368744177000 by omega)
  have hn2 := Aside0.mk (show (dig n).length ≤ 70368744177000 by omega)
  clear h0 h1 hm hn
  go_enter Try.func77, Try.ntmps77
  go_wp2
  go_region_held3 (fun W => W.cell? ⟨w.heap.size, 0, none⟩ = some (.bool s) ∧ W.cell? ⟨w.heap.size, 1, none⟩ = some (.slice A0 (dig m).length c0) ∧ W.cell? ⟨w.heap.size + 1, 0, none⟩ = some (.bool s) ∧ W.cell? ⟨w.heap.size + 1, 1, none⟩ = some (.slice A1 (dig n).length c1) ∧ Kn (Below w.heap.size w W)) (((repeat' apply And.intro) <;> first | with_reducible assumption | exact Kn.out | infer_instance | ((try (with_reducible refine c_drew ?_)); (repeat' (first | with_reducible refine kset Kn.out ?_ | with_reducible refine kset ‹_› ?_ | with_reducible refine c_low' ?_)); with_reducible assumption))) ((first | (go_at_call 89; (with_reducible refine (rtogether_any _ A0 A1 c0 c1 (dig m) (dig n) (wd_below H0.out ?hb2) (wd_below H1.out ?hb2) D0.out D1.out hm2.out hn2.out).mono ?_); (case hb2 => first | exact Kn.out | with_reducible exact Aside0.out ‹_›); rintro e w2 hnew; obtain ⟨g, c, rfl, hN, hb⟩ := hnew.wn; obtain ⟨k, hk⟩ : ∃ k : Nat, k = (val (dig m) + val (dig n)).toNat := ⟨_, rfl⟩; rw [← hk] at hN ⊢; have HK := Aside0.mk hk; have XN := Aside0.mk hN; clear hk hN hnew; have qB0 := kn_b (w0 := w) hb; have qC0 : Kn (CL _ [⟨w.heap.size, 0, none⟩, ⟨w.heap.size, 1, none⟩, ⟨w.heap.size + 1, 0, none⟩, ⟨w.heap.size + 1, 1, none⟩, ⟨w.heap.size + 1 + 1, 0, none⟩, ⟨w.heap.size + 1 + 1, 1, none⟩] [.bool s, .slice A0 (dig m).length c0, .bool s, .slice A1 (dig n).length c1, .bool false, .slice none 0 0]) := kn_c hb; obtain ⟨q0_0, q0_1, q0_2, q0_3, q0_4, q0_5, -⟩ := qC0.out; have qF0 : Kn (FZ _ [⟨w.heap.size + 1 + 1, 0, none⟩, ⟨w.heap.size + 1 + 1, 1, none⟩]) := kn_f hb; obtain ⟨⟨-, f0_0⟩, ⟨-, f0_1⟩, -⟩ := qF0.out; clear hb) | (go_at_call 88; (with_reducible refine (rsigned_any _ _ s (some ⟨g, 0, none⟩) c k XN.out).mono ?_); rintro e w3 ⟨v, rfl, hv, hb⟩; obtain ⟨z, hz⟩ : ∃ z : Int, z = sg s k := ⟨_, rfl⟩; rw [← hz] at hv; have HZ := Aside0.mk hz; have XV := Aside0.mk hv; obtain ⟨D, d, rfl, -⟩ := hv; clear hz; have qB1 := kn_b (w0 := w) hb; have qC1 : Kn (CL _ [⟨w.heap.size, 0, none⟩, ⟨w.heap.size, 1, none⟩, ⟨w.heap.size + 1, 0, none⟩, ⟨w.heap.size + 1, 1, none⟩, ⟨w.heap.size + 1 + 1, 0, none⟩, ⟨w.heap.size + 1 + 1, 1, none⟩] [.bool s, .slice A0 (dig m).length c0, .bool s, .slice A1 (dig n).length c1, .bool false, .slice none 0 0]) := kn_c hb; obtain ⟨q1_0, q1_1, q1_2, q1_3, q1_4, q1_5, -⟩ := qC1.out; have qF1 : Kn (FZ _ [⟨w.heap.size + 1 + 1, 0, none⟩, ⟨w.heap.size + 1 + 1, 1, none⟩]) := kn_f hb; obtain ⟨⟨-, f1_0⟩, ⟨-, f1_1⟩, -⟩ := qF1.out; clear hb)))
  go_wp2
  refine bodyPost_ret (v := .agg #[.bool (decide (z < 0)), .slice D (dig z.natAbs).length d]) (by simp [results, Try.results77, go_sem, q1_4, q1_5]) rfl ⟨_, rfl, ?_, below_set (below_set qB1.out (le_two _)) (le_two _)⟩
  rw [show sg s m + sg s n = z by rw [HZ.out, HK.out, dig_val, dig_val]; unfold sg; split <;> omega]
  refine ((XV.out.set' (p := ⟨w.heap.size + 1 + 1, 0, none⟩) (Nat.not_le.2 ?_) _).set' (p := ⟨w.heap.size + 1 + 1, 1, none⟩) (Nat.not_le.2 ?_) _).mono fun k hk => ?_
  · simp
  · simp
  · simp at hk; omega
set_option maxHeartbeats 4000000 in
set_option maxRecDepth 100000 in
theorem rplus_ge (w : World) (s : Bool) (m n : Nat) (A0 A1 : Option Addr) (c0 c1 : Nat) (h0 : Wd w A0 (dig m)) (h1 : Wd w A1 (dig n)) (hm : (dig m).length ≤ 35184372088832) (hn : (dig n).length ≤ 35184372088832) (hle : n ≤ m) :
    Calls Try.prog 77 #[.agg #[.bool s, .slice A0 (dig m).length c0], .agg #[.bool (!s), .slice A1 (dig n).length c1]] w (NewI w (fun k => w.heap.size ≤ k) (sg s m + sg (!s) n)) := by
  have H0 := Aside0.mk h0
  have H1 := Aside0.mk h1
  have D0 := Aside0.mk (dig_dg m)
  have D1 := Aside0.mk (dig_dg n)
  have hm2 := Aside0.mk (show (dig m).length ≤ 70368744177000 by omega)
  have hn2 := Aside0.mk (show (dig n).length ≤ 70368744177000 by omega)
  obtain ⟨r0, hr0, hr1⟩ : ∃ r0, sizeI (dig m) (dig n) = r0 ∧ 0 ≤ r0 := ⟨_, rfl, by rw [sizeI_dig]; unfold cmpI; rw [if_neg (by omega)]; split <;> omega⟩
  have HR := Aside0.mk hr0
  have HL1 := Aside0.mk (dig_len_mono hle)
  have HL2 := Aside0.mk (dig_le hle)
  have HLE := Aside0.mk hle
  have hsb : (s == !s) = false := by cases s <;> rfl
  clear h0 h1 hm hn hr0 hle
  go_enter Try.func77, Try.ntmps77
  go_upto_region 4 with (go_at_call 90; (with_reducible refine (rsize_is _ A0 A1 c0 c1 (dig m) (dig n) _ (wd_below H0.out ?hb1) (wd_below H1.out ?hb1) (dig_dg m) (dig_dg n) HR.out).mono ?_); (case hb1 => first | exact Kn.out | with_reducible exact Aside0.out ‹_›); rintro e w1 ⟨rfl, hb⟩; have qB0 := kn_b (w0 := w) hb; have qC0 : Kn (CL _ [⟨w.heap.size, 0, none⟩, ⟨w.heap.size, 1, none⟩, ⟨w.heap.size + 1, 0, none⟩, ⟨w.heap.size + 1, 1, none⟩, ⟨w.heap.size + 1 + 1, 0, none⟩, ⟨w.heap.size + 1 + 1, 1, none⟩] [.bool s, .slice A0 (dig m).length c0, .bool (!s), .slice A1 (dig n).length c1, .bool false, .slice none 0 0]) := kn_c hb; obtain ⟨q0_0, q0_1, q0_2, q0_3, q0_4, q0_5, -⟩ := qC0.out; have qF0 : Kn (FZ _ [⟨w.heap.size + 1 + 1, 0, none⟩, ⟨w.heap.size + 1 + 1, 1, none⟩]) := kn_f hb; obtain ⟨⟨-, f0_0⟩, ⟨-, f0_1⟩, -⟩ := qF0.out; clear hb)
  go_region_held3 (fun W => W.cell? ⟨w.heap.size, 0, none⟩ = some (.bool s) ∧ W.cell? ⟨w.heap.size, 1, none⟩ = some (.slice A0 (dig m).length c0) ∧ W.cell? ⟨w.heap.size + 1, 0, none⟩ = some (.bool (!s)) ∧ W.cell? ⟨w.heap.size + 1, 1, none⟩ = some (.slice A1 (dig n).length c1) ∧ Kn (Below w.heap.size w W)) (((repeat' apply And.intro) <;> first | with_reducible assumption | exact Kn.out | infer_instance | ((try (with_reducible refine c_drew ?_)); (repeat' (first | with_reducible refine kset Kn.out ?_ | with_reducible refine kset ‹_› ?_ | with_reducible refine c_low' ?_)); with_reducible assumption))) ((first | (go_at_call 91; (with_reducible refine (rapart_any _ A0 A1 c0 c1 (dig m) (dig n) (wd_below H0.out ?hb2) (wd_below H1.out ?hb2) D0.out D1.out hm2.out HL1.out HL2.out).mono ?_); (case hb2 => first | exact Kn.out | with_reducible exact Aside0.out ‹_›); rintro e w2 hnew; obtain ⟨g, c, rfl, hN, hb⟩ := hnew.wn; obtain ⟨k, hk⟩ : ∃ k : Nat, k = (val (dig m) - val (dig n)).toNat := ⟨_, rfl⟩; rw [← hk] at hN ⊢; have HK := Aside0.mk hk; have XN := Aside0.mk hN; clear hk hN hnew; have qB1 := kn_b (w0 := w) hb; have qC1 : Kn (CL _ [⟨w.heap.size, 0, none⟩, ⟨w.heap.size, 1, none⟩, ⟨w.heap.size + 1, 0, none⟩, ⟨w.heap.size + 1, 1, none⟩, ⟨w.heap.size + 1 + 1, 0, none⟩, ⟨w.heap.size + 1 + 1, 1, none⟩] [.bool s, .slice A0 (dig m).length c0, .bool (!s), .slice A1 (dig n).length c1, .bool false, .slice none 0 0]) := kn_c hb; obtain ⟨q1_0, q1_1, q1_2, q1_3, q1_4, q1_5, -⟩ := qC1.out; have qF1 : Kn (FZ _ [⟨w.heap.size + 1 + 1, 0, none⟩, ⟨w.heap.size + 1 + 1, 1, none⟩]) := kn_f hb; obtain ⟨⟨-, f1_0⟩, ⟨-, f1_1⟩, -⟩ := qF1.out; clear hb) | (go_at_call 88; (with_reducible refine (rsigned_any _ _ s (some ⟨g, 0, none⟩) c k XN.out).mono ?_); rintro e w3 ⟨v, rfl, hv, hb⟩; obtain ⟨z, hz⟩ : ∃ z : Int, z = sg s k := ⟨_, rfl⟩; rw [← hz] at hv; have HZ := Aside0.mk hz; have XV := Aside0.mk hv; obtain ⟨D, d, rfl, -⟩ := hv; clear hz; have qB2 := kn_b (w0 := w) hb; have qC2 : Kn (CL _ [⟨w.heap.size, 0, none⟩, ⟨w.heap.size, 1, none⟩, ⟨w.heap.size + 1, 0, none⟩, ⟨w.heap.size + 1, 1, none⟩, ⟨w.heap.size + 1 + 1, 0, none⟩, ⟨w.heap.size + 1 + 1, 1, none⟩] [.bool s, .slice A0 (dig m).length c0, .bool (!s), .slice A1 (dig n).length c1, .bool false, .slice none 0 0]) := kn_c hb; obtain ⟨q2_0, q2_1, q2_2, q2_3, q2_4, q2_5, -⟩ := qC2.out; have qF2 : Kn (FZ _ [⟨w.heap.size + 1 + 1, 0, none⟩, ⟨w.heap.size + 1 + 1, 1, none⟩]) := kn_f hb; obtain ⟨⟨-, f2_0⟩, ⟨-, f2_1⟩, -⟩ := qF2.out; clear hb)))
  go_wp2
  refine bodyPost_ret (v := .agg #[.bool (decide (z < 0)), .slice D (dig z.natAbs).length d]) (by simp [results, Try.results77, go_sem, q2_4, q2_5]) rfl ⟨_, rfl, ?_, below_set (below_set qB2.out (le_two _)) (le_two _)⟩
  rw [show sg s m + sg (!s) n = z by rw [HZ.out, HK.out, dig_val, dig_val]; have := HLE.out; unfold sg; cases s <;> simp <;> omega]
  refine ((XV.out.set' (p := ⟨w.heap.size + 1 + 1, 0, none⟩) (Nat.not_le.2 ?_) _).set' (p := ⟨w.heap.size + 1 + 1, 1, none⟩) (Nat.not_le.2 ?_) _).mono fun k hk => ?_
  · exact (World.block_lt_of_cell? _ _ q0_4)
  · exact (World.block_lt_of_cell? _ _ q0_5)
  · have h1 : w.heap.size + 1 + 1 < w1.heap.size := World.block_lt_of_cell? _ _ q0_5
    have h2 : w1.heap.size ≤ k := hk
    omega
set_option maxHeartbeats 4000000 in
set_option maxRecDepth 100000 in
theorem rplus_lt (w : World) (s : Bool) (m n : Nat) (A0 A1 : Option Addr) (c0 c1 : Nat) (h0 : Wd w A0 (dig m)) (h1 : Wd w A1 (dig n)) (hm : (dig m).length ≤ 35184372088832) (hn : (dig n).length ≤ 35184372088832) (hle : m < n) :
    Calls Try.prog 77 #[.agg #[.bool s, .slice A0 (dig m).length c0], .agg #[.bool (!s), .slice A1 (dig n).length c1]] w (NewI w (fun k => w.heap.size ≤ k) (sg s m + sg (!s) n)) := by
  have H0 := Aside0.mk h0
  have H1 := Aside0.mk h1
  have D0 := Aside0.mk (dig_dg m)
  have D1 := Aside0.mk (dig_dg n)
  have hm2 := Aside0.mk (show (dig m).length ≤ 70368744177000 by omega)
  have hn2 := Aside0.mk (show (dig n).length ≤ 70368744177000 by omega)
  obtain ⟨r0, hr0, hr1⟩ : ∃ r0, sizeI (dig m) (dig n) = r0 ∧ r0 < 0 := ⟨_, rfl, by rw [sizeI_dig]; unfold cmpI; rw [if_pos (by omega)]; omega⟩
  have HR := Aside0.mk hr0
  have HL1 := Aside0.mk (dig_len_mono (Nat.le_of_lt hle))
  have HL2 := Aside0.mk (dig_le (Nat.le_of_lt hle))
  have HLE := Aside0.mk hle
  have hsb : (s == !s) = false := by cases s <;> rfl
  clear h0 h1 hm hn hr0 hle
  go_enter Try.func77, Try.ntmps77
  go_upto_region 5 with (go_at_call 90; (with_reducible refine (rsize_is _ A0 A1 c0 c1 (dig m) (dig n) _ (wd_below H0.out ?hb1) (wd_below H1.out ?hb1) (dig_dg m) (dig_dg n) HR.out).mono ?_); (case hb1 => first | exact Kn.out | with_reducible exact Aside0.out ‹_›); rintro e w1 ⟨rfl, hb⟩; have qB0 := kn_b (w0 := w) hb; have qC0 : Kn (CL _ [⟨w.heap.size, 0, none⟩, ⟨w.heap.size, 1, none⟩, ⟨w.heap.size + 1, 0, none⟩, ⟨w.heap.size + 1, 1, none⟩, ⟨w.heap.size + 1 + 1, 0, none⟩, ⟨w.heap.size + 1 + 1, 1, none⟩] [.bool s, .slice A0 (dig m).length c0, .bool (!s), .slice A1 (dig n).length c1, .bool false, .slice none 0 0]) := kn_c hb; obtain ⟨q0_0, q0_1, q0_2, q0_3, q0_4, q0_5, -⟩ := qC0.out; have qF0 : Kn (FZ _ [⟨w.heap.size + 1 + 1, 0, none⟩, ⟨w.heap.size + 1 + 1, 1, none⟩]) := kn_f hb; obtain ⟨⟨-, f0_0⟩, ⟨-, f0_1⟩, -⟩ := qF0.out; clear hb)
  go_region_held3 (fun W => W.cell? ⟨w.heap.size, 0, none⟩ = some (.bool s) ∧ W.cell? ⟨w.heap.size, 1, none⟩ = some (.slice A0 (dig m).length c0) ∧ W.cell? ⟨w.heap.size + 1, 0, none⟩ = some (.bool (!s)) ∧ W.cell? ⟨w.heap.size + 1, 1, none⟩ = some (.slice A1 (dig n).length c1) ∧ Kn (Below w.heap.size w W)) (((repeat' apply And.intro) <;> first | with_reducible assumption | exact Kn.out | infer_instance | ((try (with_reducible refine c_drew ?_)); (repeat' (first | with_reducible refine kset Kn.out ?_ | with_reducible refine kset ‹_› ?_ | with_reducible refine c_low' ?_)); with_reducible assumption))) ((first | (go_at_call 91; (with_reducible refine (rapart_any _ A1 A0 c1 c0 (dig n) (dig m) (wd_below H1.out ?hb2) (wd_below H0.out ?hb2) D1.out D0.out hn2.out HL1.out HL2.out).mono ?_); (case hb2 => first | exact Kn.out | with_reducible exact Aside0.out ‹_›); rintro e w2 hnew; obtain ⟨g, c, rfl, hN, hb⟩ := hnew.wn; obtain ⟨k, hk⟩ : ∃ k : Nat, k = (val (dig n) - val (dig m)).toNat := ⟨_, rfl⟩; rw [← hk] at hN ⊢; have HK := Aside0.mk hk; have XN := Aside0.mk hN; clear hk hN hnew; have qB1 := kn_b (w0 := w) hb; have qC1 : Kn (CL _ [⟨w.heap.size, 0, none⟩, ⟨w.heap.size, 1, none⟩, ⟨w.heap.size + 1, 0, none⟩, ⟨w.heap.size + 1, 1, none⟩, ⟨w.heap.size + 1 + 1, 0, none⟩, ⟨w.heap.size + 1 + 1, 1, none⟩] [.bool s, .slice A0 (dig m).length c0, .bool (!s), .slice A1 (dig n).length c1, .bool false, .slice none 0 0]) := kn_c hb; obtain ⟨q1_0, q1_1, q1_2, q1_3, q1_4, q1_5, -⟩ := qC1.out; have qF1 : Kn (FZ _ [⟨w.heap.size + 1 + 1, 0, none⟩, ⟨w.heap.size + 1 + 1, 1, none⟩]) := kn_f hb; obtain ⟨⟨-, f1_0⟩, ⟨-, f1_1⟩, -⟩ := qF1.out; clear hb) | (go_at_call 88; (with_reducible refine (rsigned_any _ _ (!s) (some ⟨g, 0, none⟩) c k XN.out).mono ?_); rintro e w3 ⟨v, rfl, hv, hb⟩; obtain ⟨z, hz⟩ : ∃ z : Int, z = sg (!s) k := ⟨_, rfl⟩; rw [← hz] at hv; have HZ := Aside0.mk hz; have XV := Aside0.mk hv; obtain ⟨D, d, rfl, -⟩ := hv; clear hz; have qB2 := kn_b (w0 := w) hb; have qC2 : Kn (CL _ [⟨w.heap.size, 0, none⟩, ⟨w.heap.size, 1, none⟩, ⟨w.heap.size + 1, 0, none⟩, ⟨w.heap.size + 1, 1, none⟩, ⟨w.heap.size + 1 + 1, 0, none⟩, ⟨w.heap.size + 1 + 1, 1, none⟩] [.bool s, .slice A0 (dig m).length c0, .bool (!s), .slice A1 (dig n).length c1, .bool false, .slice none 0 0]) := kn_c hb; obtain ⟨q2_0, q2_1, q2_2, q2_3, q2_4, q2_5, -⟩ := qC2.out; have qF2 : Kn (FZ _ [⟨w.heap.size + 1 + 1, 0, none⟩, ⟨w.heap.size + 1 + 1, 1, none⟩]) := kn_f hb; obtain ⟨⟨-, f2_0⟩, ⟨-, f2_1⟩, -⟩ := qF2.out; clear hb)))
  go_wp2
  refine bodyPost_ret (v := .agg #[.bool (decide (z < 0)), .slice D (dig z.natAbs).length d]) (by simp [results, Try.results77, go_sem, q2_4, q2_5]) rfl ⟨_, rfl, ?_, below_set (below_set qB2.out (le_two _)) (le_two _)⟩
  rw [show sg s m + sg (!s) n = z by rw [HZ.out, HK.out, dig_val, dig_val]; have := HLE.out; unfold sg; cases s <;> simp <;> omega]
  refine ((XV.out.set' (p := ⟨w.heap.size + 1 + 1, 0, none⟩) (Nat.not_le.2 ?_) _).set' (p := ⟨w.heap.size + 1 + 1, 1, none⟩) (Nat.not_le.2 ?_) _).mono fun k hk => ?_
  · exact (World.block_lt_of_cell? _ _ q0_4)
  · exact (World.block_lt_of_cell? _ _ q0_5)
  · have h1 : w.heap.size + 1 + 1 < w1.heap.size := World.block_lt_of_cell? _ _ q0_5
    have h2 : w1.heap.size ≤ k := hk
    omega
theorem rplus_any (w : World) (P Q : Nat → Prop) (u v : Value) (x y : Int) (h0 : BI w P u x) (h1 : BI w Q v y) (hm : (dig x.natAbs).length ≤ 35184372088832) (hn : (dig y.natAbs).length ≤ 35184372088832) :
    Calls Try.prog 77 #[u, v] w (NewI w (fun k => w.heap.size ≤ k) (x + y)) := by
  obtain ⟨A0, c0, rfl, hc, h0, ho⟩ := h0
  obtain ⟨A1, c1, rfl, hd, h1, hp⟩ := h1
  have H : ∀ s t : Bool, sg s x.natAbs = x → sg t y.natAbs = y → Calls Try.prog 77 #[.agg #[.bool s, .slice A0 (dig x.natAbs).length c0], .agg #[.bool t, .slice A1 (dig y.natAbs).length c1]] w (NewI w (fun k => w.heap.size ≤ k) (x + y)) := by
    intro s t hs ht
    by_cases e : t = s
    · subst e
      have := rplus_same w t x.natAbs y.natAbs A0 A1 c0 c1 h0 h1 hm hn
      rwa [hs, ht] at this
    · have e' : t = !s := by cases s <;> cases t <;> simp_all
      subst e'
      by_cases c : x.natAbs < y.natAbs
      · have := rplus_lt w s _ _ A0 A1 c0 c1 h0 h1 hm hn c
        rwa [hs, ht] at this
      · have := rplus_ge w s _ _ A0 A1 c0 c1 h0 h1 hm hn (by omega)
        rwa [hs, ht] at this
  exact H _ _ (sg_of x) (sg_of y)
set_option maxHeartbeats 4000000 in
set_option maxRecDepth 100000 in
theorem rminus_any (w : World) (P Q : Nat → Prop) (u v : Value) (x y : Int) (h0 : BI w P u x) (h1 : BI w Q v y) (hm : (dig x.natAbs).length ≤ 35184372088832) (hn : (dig y.natAbs).length ≤ 35184372088832) :
    Calls Try.prog 94 #[u, v] w (NewI w (fun k => w.heap.size ≤ k) (x - y)) := by
  have X0 := Aside0.mk h0
  have X1 := Aside0.mk h1
  obtain ⟨A0, c0, rfl, -⟩ := h0
  obtain ⟨A1, c1, rfl, -⟩ := h1
  have HM := Aside0.mk hm
  have HN := Aside0.mk (show (dig (-y).natAbs).length ≤ 35184372088832 by rw [Int.natAbs_neg]; exact hn)
  clear hm hn
  go_enter Try.func94, Try.ntmps94
  go_wp2
  go_region_held3 (fun W => W.cell? ⟨w.heap.size, 0, none⟩ = some (.bool (decide (x < 0))) ∧ W.cell? ⟨w.heap.size, 1, none⟩ = some (.slice A0 (dig x.natAbs).length c0) ∧ W.cell? ⟨w.heap.size + 1, 0, none⟩ = some (.bool (decide (y < 0))) ∧ W.cell? ⟨w.heap.size + 1, 1, none⟩ = some (.slice A1 (dig y.natAbs).length c1) ∧ Kn (Below w.heap.size w W)) (((repeat' apply And.intro) <;> first | with_reducible assumption | exact Kn.out | infer_instance | ((try (with_reducible refine c_drew ?_)); (repeat' (first | with_reducible refine kset Kn.out ?_ | with_reducible refine kset ‹_› ?_ | with_reducible refine c_low' ?_)); with_reducible assumption))) ((first | (go_at_call 79; (with_reducible refine (ropposite_any _ _ _ y (X1.out.below ?hb1)).mono ?_); (case hb1 => first | exact Kn.out | with_reducible exact Aside0.out ‹_›); rintro e w1 ⟨v, rfl, hv, hb⟩; have XV := Aside0.mk hv; clear hv; have qB0 := kn_b (w0 := w) hb; have qC0 : Kn (CL _ [⟨w.heap.size, 0, none⟩, ⟨w.heap.size, 1, none⟩, ⟨w.heap.size + 1, 0, none⟩, ⟨w.heap.size + 1, 1, none⟩, ⟨w.heap.size + 1 + 1, 0, none⟩, ⟨w.heap.size + 1 + 1, 1, none⟩] [.bool (decide (x < 0)), .slice A0 (dig x.natAbs).length c0, .bool (decide (y < 0)), .slice A1 (dig y.natAbs).length c1, .bool false, .slice none 0 0]) := kn_c hb; obtain ⟨q0_0, q0_1, q0_2, q0_3, q0_4, q0_5, -⟩ := qC0.out; have qF0 : Kn (FZ _ [⟨w.heap.size + 1 + 1, 0, none⟩, ⟨w.heap.size + 1 + 1, 1, none⟩]) := kn_f hb; obtain ⟨⟨-, f0_0⟩, ⟨-, f0_1⟩, -⟩ := qF0.out; clear hb) | (go_at_call 77; (with_reducible refine (rplus_any _ _ _ _ _ x (-y) (X0.out.below ?hb2) XV.out HM.out HN.out).mono ?_); (case hb2 => first | exact Kn.out | with_reducible exact Aside0.out ‹_›); rintro e w2 ⟨v, rfl, hv, hb⟩; obtain ⟨z, hz⟩ : ∃ z : Int, z = x + -y := ⟨_, rfl⟩; rw [← hz] at hv; have HZ := Aside0.mk hz; have XR := Aside0.mk hv; obtain ⟨D, d, rfl, -⟩ := hv; clear hz; have qB1 := kn_b (w0 := w) hb; have qC1 : Kn (CL _ [⟨w.heap.size, 0, none⟩, ⟨w.heap.size, 1, none⟩, ⟨w.heap.size + 1, 0, none⟩, ⟨w.heap.size + 1, 1, none⟩, ⟨w.heap.size + 1 + 1, 0, none⟩, ⟨w.heap.size + 1 + 1, 1, none⟩] [.bool (decide (x < 0)), .slice A0 (dig x.natAbs).length c0, .bool (decide (y < 0)), .slice A1 (dig y.natAbs).length c1, .bool false, .slice none 0 0]) := kn_c hb; obtain ⟨q1_0, q1_1, q1_2, q1_3, q1_4, q1_5, -⟩ := qC1.out; have qF1 : Kn (FZ _ [⟨w.heap.size + 1 + 1, 0, none⟩, ⟨w.heap.size + 1 + 1, 1, none⟩]) := kn_f hb; obtain ⟨⟨-, f1_0⟩, ⟨-, f1_1⟩, -⟩ := qF1.out; clear hb)))
  go_wp2
  refine bodyPost_ret (v := .agg #[.bool (decide (z < 0)), .slice D (dig z.natAbs).length d]) (by simp [results, Try.results94, go_sem, q1_4, q1_5]) rfl ⟨_, rfl, ?_, below_set (below_set qB1.out (le_two _)) (le_two _)⟩
  rw [Int.sub_eq_add_neg, ← HZ.out]
  have h1 : w.heap.size + 1 + 1 < w1.heap.size := World.block_lt_of_cell? _ _ q0_5
  exact ((XR.out.set' (p := ⟨w.heap.size + 1 + 1, 0, none⟩) (Nat.not_le.2 h1) _).set' (p := ⟨w.heap.size + 1 + 1, 1, none⟩) (Nat.not_le.2 h1) _).mono fun k (hk : w1.heap.size ≤ k) => by omega
end Go.Proofs.Ytlaidcoickeihaa.Nb
namespace Go.Proofs.Ytlaidcoickeihaa.Nb
open Go.RowKit Go.Proofs.Ytlaidcoickeihaa.Wd.PrintWords Go.Proofs.Ytlaidcoickeihaa.Wd.PrintLast Go.Proofs.Ytlaidcoickeihaa.Wd.PrintMore Go.Proofs.Ytlaidcoickeihaa.Big
set_option synthInstance.maxSize 2000
set_option synthInstance.maxHeartbeats 400000
theorem wd_end {w1 w2 : World} {g : Nat} {xs : List Int} (h : Wd w1 (some ⟨g, 0, none⟩) xs) (hd : Dg xs) (hb : Below w1.heap.size w1 w2) (P : Nat → Prop) (hP : P g) : WN w2 P (some ⟨g, 0, none⟩) xs.length (val xs).toNat :=
  ⟨wd_below (wd_dig h hd) hb, dig_len_pre hd, fun ad ha _ => by cases ha; exact hP⟩
set_option maxHeartbeats 4000000 in
set_option maxRecDepth 100000 in
theorem rtimes_raw (w : World) (s t : Bool) (a b : List Int) (A0 A1 : Option Addr) (c0 c1 : Nat) (h0 : Wd w A0 a) (h1 : Wd w A1 b) (d0 : Dg a) (d1 : Dg b) (hm : a.length ≤ 35184372088832) (hn : b.length ≤ 35184372088832) :
    Calls Try.prog 78 #[.agg #[.bool s, .slice A0 a.length c0], .agg #[.bool t, .slice A1 b.length c1]] w (NewI w (fun k => w.heap.size ≤ k) (sg (s != t) (val a * val b).toNat)) := by
  have H0 := Aside0.mk h0
  have H1 := Aside0.mk h1
  have D0 := Aside0.mk d0
  have D1 := Aside0.mk d1
  obtain ⟨W0, hW0, z0, ⟨p0, p1, p2, p3, p4, p5⟩, pf, hb0⟩ := box3 w (.bool s) (.slice A0 a.length c0) (.bool t) (.slice A1 b.length c1) (.bool false) (.slice none 0 0) 106
  have HW := Aside0.mk hW0
  have HZ := Aside0.mk z0
  have HB := Aside0.mk hb0
  have P1 := Aside0.mk p1
  have P3 := Aside0.mk p3
  have PF := Aside0.mk pf
  have P0 := Aside0.mk p0
  have P2 := Aside0.mk p2
  have P4 := Aside0.mk p4
  have P5 := Aside0.mk p5
  clear hW0 z0 hb0 p0 p1 p2 p3 p4 p5 pf h0 h1 d0 d1
  have hmk := mk_words ((a.length : Int) + (b.length : Int)) (by omega) (by omega)
  go_enter Try.func78, Try.ntmps78
  go_wp2
  clear hmk
  go_loopw [21] (fun v21 W => ∃ (i : Nat) (xs : List Int), v21 = .int .i64 i ∧ i ≤ a.length ∧ Aside0 (Fill W0 (w.heap.size + 1 + 1 + 1) (a.length + b.length) (i + b.length) xs W) ∧ Aside0 (val xs = val (a.take i) * val b)) (fun v21 _ => a.length - (intOf v21).toNat)
  case atStart => exact ⟨0, List.replicate (a.length + b.length) 0, rfl, Nat.zero_le _, ⟨by have h := (Fill.start W0 (a.length + b.length)).more (Nat.zero_le (0 + b.length)); rw [HZ.out] at h; rw [← HW.out]; exact h⟩, ⟨by simp [val_replicate, val_nil]⟩⟩
  case round =>
    obtain ⟨i, xs, rfl, hi, HF, HV⟩ := hrel
    have q1 := kc HF.out.below P1.out
    have q3 := kc HF.out.below P3.out
    by_cases hlt : i < a.length
    · obtain ⟨ad0, e0, x0⟩ := wd_at (wd_below H0.out (HB.out.trans (HF.out.below.mono (by rw [HZ.out]; omega)))) i hlt
      subst e0
      have y0 := dg_get D0.out i
      have HA := Aside0.mk (val_take_succ a i)
      generalize hx : a.getD i 0 = x at *
      have HXX := Aside0.mk hx
      clear hx
      obtain ⟨wo, rfl⟩ : ∃ wo : World, wo = wr := ⟨_, rfl⟩
      go_wp2
      clear q1 q3 x0
      go_loopw [7, 27] (fun v7 v27 W => ∃ (k : Nat) (c : Int) (ys : List Int), v7 = .int .u64 c ∧ v27 = .int .i64 k ∧ k ≤ b.length ∧ Aside0 (0 ≤ c ∧ c < 4294967296) ∧ Aside0 (Fill W0 (w.heap.size + 1 + 1 + 1) (a.length + b.length) (i + b.length) ys W) ∧ Aside0 (val ys + c * 4294967296 ^ (i + k) = val xs + 4294967296 ^ i * (x * val (b.take k)))) (fun _ v27 _ => b.length - (intOf v27).toNat)
      case atStart => exact ⟨0, 0, xs, rfl, rfl, Nat.zero_le _, ⟨by omega⟩, HF, ⟨by simp [val_nil]⟩⟩
      case round =>
        obtain ⟨k, c, ys, rfl, rfl, hk, HC, HG, HU⟩ := hrel
        have q1 := kc HG.out.below P1.out
        have q3 := kc HG.out.below P3.out
        by_cases hkl : k < b.length
        · obtain ⟨ad1, e1, x1⟩ := wd_at (wd_below H1.out (HB.out.trans (HG.out.below.mono (by rw [HZ.out]; omega)))) k hkl
          subst e1
          obtain ⟨ad0', e0', x0⟩ := wd_at (wd_below H0.out (HB.out.trans (HG.out.below.mono (by rw [HZ.out]; omega)))) i hlt
          obtain rfl : ad0 = ad0' := by simpa using e0'
          clear e0'
          rw [HXX.out] at x0
          have y1 := dg_get D1.out k
          have HE := Aside0.mk (val_take_succ b k)
          have o0 := HG.out.own.cell (i + k) (by rw [HG.out.len]; omega)
          have f0 := HG.out.own.frozen (i + k)
          have yo := dg_get HG.out.dg (i + k)
          have HS := Aside0.mk (fun v => val_set ys (i + k) (by rw [HG.out.len]; omega) v)
          generalize b.getD k 0 = y at *
          generalize ys.getD (i + k) 0 = o at *
          obtain ⟨m0, m1⟩ := mul_bound y0 y1
          obtain ⟨hc0, hc1⟩ := HC.out
          have ht : 0 ≤ x * y + o + c ∧ x * y + o + c ≤ 18446744073709551615 := by omega
          obtain ⟨t0, t1⟩ := ht
          have hcl : i + k < a.length + b.length := by omega
          go_wp2
          go_quiet (fail)
          go_wp2
          refine ⟨⟨k + 1, (x * y + o + c) / 4294967296, ys.set (i + k) ((x * y + o + c) % 4294967296), rfl, by go_num, by omega, ⟨by omega⟩, ⟨Fill.set (HG.out.drewN nq) (i + k) (by omega) _ (by omega)⟩, ⟨by
            have e := mul_step HU.out (x * y + o + c) rfl
            rw [HS.out, HE.out, show i + (k + 1) = i + k + 1 by omega, Int.pow_succ, e, Int.pow_add]
            grind⟩⟩, by simp [intOf]; omega⟩
        · have HK := Aside0.mk (show k = b.length by omega)
          obtain rfl := HK.out
          obtain ⟨hc0, hc1⟩ := HC.out
          have o0 := HG.out.own.cell (i + b.length) (by rw [HG.out.len]; omega)
          have f0 := HG.out.own.frozen (i + b.length)
          have hcl : i + b.length < a.length + b.length := by omega
          go_wp2
          refine ⟨⟨i + 1, ys.set (i + b.length) c, by go_num, by omega, ⟨by rw [show i + 1 + b.length = i + b.length + 1 by omega]; exact HG.out.put c ⟨hc0, hc1⟩⟩, ⟨by
            have e := HU.out
            rw [List.take_length] at e
            rw [HG.out.val (by omega), HA.out, Int.mul_comm, e, HV.out]
            grind⟩⟩, by simp [intOf]; omega⟩
    · have HI := Aside0.mk (show i = a.length by omega)
      obtain rfl := HI.out
      have q0 := kc HF.out.below P0.out
      have q2 := kc HF.out.below P2.out
      have q4 := kc HF.out.below P4.out
      have q5 := kc HF.out.below P5.out
      have g4 := kf HF.out.below P4.out (PF.out 0)
      have g5 := kf HF.out.below P5.out (PF.out 1)
      have hv := HV.out
      rw [List.take_length] at hv
      have HU := Aside0.mk hv
      have hl := HF.out.len
      have HL := Aside0.mk hl
      have HWD := Aside0.mk (wd_below (HF.out.own.wd (by have := HL.out; omega)) (below_drew (Below.refl wr.heap.size wr)))
      have HBW := Kn.mk (below_step HB.out HF.out.below)
      obtain ⟨u, hu1⟩ : ∃ u : Bool, (s != t) = u := ⟨_, rfl⟩
      have HUU := Aside0.mk hu1
      have hu2 : (!(s == t)) = u := hu1
      rw [← hl]
      clear hv hl
      go_wp2
      have qBs := Kn.mk HBW.out; have qCs : Kn (CL wr [⟨w.heap.size, 0, none⟩, ⟨w.heap.size, 1, none⟩, ⟨w.heap.size + 1, 0, none⟩, ⟨w.heap.size + 1, 1, none⟩, ⟨w.heap.size + 1 + 1, 0, none⟩, ⟨w.heap.size + 1 + 1, 1, none⟩] [.bool s, .slice A0 a.length c0, .bool t, .slice A1 b.length c1, .bool false, .slice none 0 0]) := ⟨cl_c ‹_› (cl_c ‹_› (cl_c ‹_› (cl_c ‹_› (cl_c ‹_› (cl_c ‹_› (cl_n _))))))⟩; have qFs : Kn (FZ wr [⟨w.heap.size + 1 + 1, 0, none⟩, ⟨w.heap.size + 1 + 1, 1, none⟩]) := ⟨fz_cc (v := .bool false) ‹_› ‹_› (fz_cc (v := .slice none 0 0) ‹_› ‹_› (fz_n _))⟩
      go_region_held3 (fun W => W.cell? ⟨w.heap.size, 0, none⟩ = some (.bool s) ∧ W.cell? ⟨w.heap.size, 1, none⟩ = some (.slice A0 a.length c0) ∧ W.cell? ⟨w.heap.size + 1, 0, none⟩ = some (.bool t) ∧ W.cell? ⟨w.heap.size + 1, 1, none⟩ = some (.slice A1 b.length c1) ∧ Kn (Below w.heap.size w W)) (((repeat' apply And.intro) <;> first | with_reducible assumption | exact Kn.out | infer_instance | ((try (with_reducible refine c_drew ?_)); (repeat' (first | with_reducible refine kset Kn.out ?_ | with_reducible refine kset ‹_› ?_ | with_reducible refine c_low' ?_)); with_reducible assumption))) ((first | (go_at_call 82; (with_reducible refine (rtrimmed_any _ (some ⟨w.heap.size + 1 + 1 + 1, 0, none⟩) xs.length xs HWD.out HF.out.dg (Nat.le_refl _)).mono ?_); rintro e w3 ⟨rfl, hdr⟩; have hb := hdr.below; have HN := Aside0.mk (wd_end HWD.out HF.out.dg hb (fun k => w.heap.size + 1 + 1 + 1 ≤ k) (Nat.le_refl (w.heap.size + 1 + 1 + 1))); clear hdr; have qB0 := kn_b (w0 := w) hb; have qC0 : Kn (CL _ [⟨w.heap.size, 0, none⟩, ⟨w.heap.size, 1, none⟩, ⟨w.heap.size + 1, 0, none⟩, ⟨w.heap.size + 1, 1, none⟩, ⟨w.heap.size + 1 + 1, 0, none⟩, ⟨w.heap.size + 1 + 1, 1, none⟩] [.bool s, .slice A0 a.length c0, .bool t, .slice A1 b.length c1, .bool false, .slice none 0 0]) := kn_c hb; obtain ⟨q0_0, q0_1, q0_2, q0_3, q0_4, q0_5, -⟩ := qC0.out; have qF0 : Kn (FZ _ [⟨w.heap.size + 1 + 1, 0, none⟩, ⟨w.heap.size + 1 + 1, 1, none⟩]) := kn_f hb; obtain ⟨⟨-, f0_0⟩, ⟨-, f0_1⟩, -⟩ := qF0.out; clear hb) | (go_at_call 88; (with_reducible refine (rsigned_any _ _ u (some ⟨w.heap.size + 1 + 1 + 1, 0, none⟩) xs.length (val xs).toNat HN.out).mono ?_); rintro e w4 ⟨v, rfl, hv, hb⟩; obtain ⟨z, hz⟩ : ∃ z : Int, z = sg u (val xs).toNat := ⟨_, rfl⟩; rw [← hz] at hv; have HZ2 := Aside0.mk hz; have XV := Aside0.mk hv; obtain ⟨D, d, rfl, -⟩ := hv; clear hz; have qB1 := kn_b (w0 := w) hb; have qC1 : Kn (CL _ [⟨w.heap.size, 0, none⟩, ⟨w.heap.size, 1, none⟩, ⟨w.heap.size + 1, 0, none⟩, ⟨w.heap.size + 1, 1, none⟩, ⟨w.heap.size + 1 + 1, 0, none⟩, ⟨w.heap.size + 1 + 1, 1, none⟩] [.bool s, .slice A0 a.length c0, .bool t, .slice A1 b.length c1, .bool false, .slice none 0 0]) := kn_c hb; obtain ⟨q1_0, q1_1, q1_2, q1_3, q1_4, q1_5, -⟩ := qC1.out; have qF1 : Kn (FZ _ [⟨w.heap.size + 1 + 1, 0, none⟩, ⟨w.heap.size + 1 + 1, 1, none⟩]) := kn_f hb; obtain ⟨⟨-, f1_0⟩, ⟨-, f1_1⟩, -⟩ := qF1.out; clear hb)))
      go_wp2
      have hz : z = sg u (val a * val b).toNat := by rw [HZ2.out, HU.out]
      refine bodyPost_ret (v := .agg #[.bool (decide (z < 0)), .slice D (dig z.natAbs).length d]) (by simp [results, Try.results78, go_sem, q1_4, q1_5]) rfl ⟨_, rfl, ?_, below_set (below_set qB1.out (le_two _)) (le_two _)⟩
      rw [HUU.out, ← hz]
      exact ((XV.out.set' (p := ⟨w.heap.size + 1 + 1, 0, none⟩) (by simp) _).set' (p := ⟨w.heap.size + 1 + 1, 1, none⟩) (by simp) _).mono fun k hk => by omega
theorem rtimes_any (w : World) (P Q : Nat → Prop) (u v : Value) (x y : Int) (h0 : BI w P u x) (h1 : BI w Q v y) (hm : (dig x.natAbs).length ≤ 35184372088832) (hn : (dig y.natAbs).length ≤ 35184372088832) :
    Calls Try.prog 78 #[u, v] w (NewI w (fun k => w.heap.size ≤ k) (x * y)) := by
  obtain ⟨A0, c0, rfl, hc, h0, ho⟩ := h0
  obtain ⟨A1, c1, rfl, hd, h1, hp⟩ := h1
  have := rtimes_raw w (decide (x < 0)) (decide (y < 0)) (dig x.natAbs) (dig y.natAbs) A0 A1 c0 c1 h0 h1 (dig_dg _) (dig_dg _) hm hn
  rw [dig_val, dig_val, show ((x.natAbs : Int) * (y.natAbs : Int)).toNat = x.natAbs * y.natAbs by rw [← Int.natCast_mul]; rfl, sg_mul] at this
  exact this
end Go.Proofs.Ytlaidcoickeihaa.Nb
namespace Go.Proofs.Ytlaidcoickeihaa.Nb
open Go.RowKit Go.Proofs.Ytlaidcoickeihaa.Wd.PrintWords Go.Proofs.Ytlaidcoickeihaa.Wd.PrintLast Go.Proofs.Ytlaidcoickeihaa.Wd.PrintMore Go.Proofs.Ytlaidcoickeihaa.Big
set_option synthInstance.maxSize 2000
set_option synthInstance.maxHeartbeats 400000
theorem rof_own (w : World) (a b : Value) (x y : Int) {W : World} (h : W = (w.alloc (.cells #[a, b] 106)).alloc (.cells #[.int .u32 x, .int .u32 y] 116)) : Own W (w.heap.size + 1) [x, y] := by
  subst h
  have := Own.new (w.alloc (.cells #[a, b] 106)) [x, y]
  simpa [nums] using this
theorem digits_of (m : Int) (k : Nat) (h : m = k) (hk : k < 18446744073709551616) : Dg [m % 4294967296, m / 4294967296] ∧ val [m % 4294967296, m / 4294967296] = k := by
  subst h
  have e : val [(k : Int) % 4294967296, (k : Int) / 4294967296] = k := by simp only [val]; omega
  refine ⟨?_, e⟩
  intro x hx
  simp only [List.mem_cons, List.not_mem_nil, or_false] at hx
  omega
set_option maxHeartbeats 4000000 in
set_option maxRecDepth 100000 in
theorem rof_any (w : World) (n : Int) (hn : -9223372036854775808 ≤ n ∧ n ≤ 9223372036854775807) :
    Calls Try.prog 65 #[.int .i64 n] w (NewI w (fun k => w.heap.size ≤ k) n) := by
  obtain ⟨h0, h1⟩ := hn
  by_cases hz : n < 0
  · have hu : IntKind.u64.wrap (-IntKind.u64.wrap n) = -n := by
      simp [IntKind.wrap, IntKind.bits, IntKind.signed]; omega
    obtain ⟨k2, k3⟩ := digits_of (-n) n.natAbs (by omega) (by omega)
    have K2 := Aside0.mk k2
    have K3 := Aside0.mk k3
    clear k2 k3
    have hd : decide (n < 0) = true := decide_eq_true hz
    go_enter Try.func65, Try.ntmps65
    go_wp2_with (go_at_call 82; refine (rtrimmed_any _ (some ⟨w.heap.size + 1, 0, none⟩) 2 [-n % 4294967296, -n / 4294967296] (Own.wd (rof_own w _ _ _ _ rfl) ?wd1) K2.out (Nat.le_refl _)).mono ?_; (case wd1 => simp); rintro e w1 ⟨rfl, hdr⟩; have hb := hdr.below; have HN := Aside0.mk (wd_end (Own.wd (rof_own w _ _ _ _ rfl) (by simp)) K2.out hb (fun k => w.heap.size + 1 ≤ k) (Nat.le_refl (w.heap.size + 1))); have r4 := kc hb (c_low' (c_new rfl rfl) : World.cell? _ ⟨w.heap.size, 0, none⟩ = some (.bool false)); have r5 := kc hb (c_low' (c_new rfl rfl) : World.cell? _ ⟨w.heap.size, 1, none⟩ = some (.slice none 0 0)); have g4 := kf hb (c_low' (c_new rfl rfl) : World.cell? _ ⟨w.heap.size, 0, none⟩ = some (.bool false)) (f_low (by simp) (f_new rfl)); have g5 := kf hb (c_low' (c_new rfl rfl) : World.cell? _ ⟨w.heap.size, 1, none⟩ = some (.slice none 0 0)) (f_low (by simp) (f_new rfl)); have HB := Kn.mk (below_step (below_alloc (below_alloc (Below.refl w.heap.size w) _) _) hb); clear hb hdr)
    have e : (val [-n % 4294967296, -n / 4294967296]).toNat = n.natAbs := by rw [K3.out]; omega
    have hn := HN.out
    rw [e] at hn
    rw [e]
    have hbi := BI.of hn.wd hn.cap hn.ok (s := true) (by rw [Bool.true_and, eq_comm, decide_eq_true_eq]; omega)
    rw [show sg true n.natAbs = n by unfold sg; simp; omega] at hbi
    refine bodyPost_ret (v := .agg #[.bool true, .slice (some ⟨w.heap.size + 1, 0, none⟩) (dig n.natAbs).length 2]) (by simp [results, Try.results65, go_sem, r4, r5]) rfl ⟨_, rfl, ?_, below_set (below_set HB.out (Nat.le_refl _)) (Nat.le_refl _)⟩
    exact ((hbi.set' (p := ⟨w.heap.size, 0, none⟩) (fun h => by simp only [] at h; omega) _).set' (p := ⟨w.heap.size, 1, none⟩) (fun h => by simp only [] at h; omega) _).mono fun k hk => by omega
  · obtain ⟨k2, k3⟩ := digits_of n n.natAbs (by omega) (by omega)
    have K2 := Aside0.mk k2
    have K3 := Aside0.mk k3
    clear k2 k3
    have hd : decide (n < 0) = false := decide_eq_false hz
    go_enter Try.func65, Try.ntmps65
    go_wp2_with (go_at_call 82; refine (rtrimmed_any _ (some ⟨w.heap.size + 1, 0, none⟩) 2 [n % 4294967296, n / 4294967296] (Own.wd (rof_own w _ _ _ _ rfl) ?wd1) K2.out (Nat.le_refl _)).mono ?_; (case wd1 => simp); rintro e w1 ⟨rfl, hdr⟩; have hb := hdr.below; have HN := Aside0.mk (wd_end (Own.wd (rof_own w _ _ _ _ rfl) (by simp)) K2.out hb (fun k => w.heap.size + 1 ≤ k) (Nat.le_refl (w.heap.size + 1))); have r4 := kc hb (c_low' (c_new rfl rfl) : World.cell? _ ⟨w.heap.size, 0, none⟩ = some (.bool false)); have r5 := kc hb (c_low' (c_new rfl rfl) : World.cell? _ ⟨w.heap.size, 1, none⟩ = some (.slice none 0 0)); have g4 := kf hb (c_low' (c_new rfl rfl) : World.cell? _ ⟨w.heap.size, 0, none⟩ = some (.bool false)) (f_low (by simp) (f_new rfl)); have g5 := kf hb (c_low' (c_new rfl rfl) : World.cell? _ ⟨w.heap.size, 1, none⟩ = some (.slice none 0 0)) (f_low (by simp) (f_new rfl)); have HB := Kn.mk (below_step (below_alloc (below_alloc (Below.refl w.heap.size w) _) _) hb); clear hb hdr)
    have e : (val [n % 4294967296, n / 4294967296]).toNat = n.natAbs := by rw [K3.out]; omega
    have hn := HN.out
    rw [e] at hn
    rw [e]
    have hbi := BI.of hn.wd hn.cap hn.ok (s := false) (by rfl)
    rw [show sg false n.natAbs = n by unfold sg; simp; omega] at hbi
    refine bodyPost_ret (v := .agg #[.bool false, .slice (some ⟨w.heap.size + 1, 0, none⟩) (dig n.natAbs).length 2]) (by simp [results, Try.results65, go_sem, r4, r5]) rfl ⟨_, rfl, ?_, below_set (below_set HB.out (Nat.le_refl _)) (Nat.le_refl _)⟩
    exact ((hbi.set' (p := ⟨w.heap.size, 0, none⟩) (fun h => by simp only [] at h; omega) _).set' (p := ⟨w.heap.size, 1, none⟩) (fun h => by simp only [] at h; omega) _).mono fun k hk => by omega
set_option maxHeartbeats 4000000 in
set_option maxRecDepth 100000 in
theorem rtop_any (w : World) (A : Option Addr) (c : Nat) (l : List Int) (k : Nat) (h : Wd w A l) (d : Dg l) :
    Calls Try.prog 101 #[.slice A l.length c, .int .i64 k] w fun e w' => e = .returned (.int .u64 (l.getD k 0)) ∧ Drawn0 w w' := by
  have hl := wd_len h
  by_cases hk : k < l.length
  · obtain ⟨ad, rfl, x0⟩ := wd_at h k hk
    have y0 := dg_get d k
    generalize l.getD k 0 = x at *
    clear h d
    go_enter Try.func101, Try.ntmps101
    go_wp2
    go_ret
    exact ⟨rfl, Drawn0.refl _⟩
  · have hx : l.getD k 0 = 0 := by rw [List.getD_eq_getElem?_getD, List.getElem?_eq_none (by omega)]; rfl
    rw [hx]
    clear h d hx
    go_enter Try.func101, Try.ntmps101
    go_wp2
    go_ret
    exact ⟨rfl, Drawn0.refl _⟩
set_option maxHeartbeats 4000000 in
set_option maxRecDepth 100000 in
theorem rbits_any (w : World) (d : Int) (h0 : 1 ≤ d) (h1 : d < 4294967296) :
    Calls Try.prog 99 #[.int .u32 d] w fun e w' => ∃ k : Nat, e = .returned (.int .i64 k) ∧ k ≤ 31 ∧ 2147483648 ≤ d * 2 ^ k ∧ d * 2 ^ k < 4294967296 ∧ Drawn0 w w' := by
  have H0 := Aside0.mk h0
  have H1 := Aside0.mk h1
  clear h0 h1
  go_enter Try.func99, Try.ntmps99
  go_wp2
  go_loopw [0, 3] (fun v0 v3 W => ∃ (k : Nat) (e : Int), v0 = .int .u32 e ∧ v3 = .int .i64 k ∧ k ≤ 31 ∧ Aside0 (1 ≤ e ∧ e < 4294967296 ∧ 2 ^ k ≤ e) ∧ Aside0 (e = d * 2 ^ k) ∧ Drawn0 w W) (fun v0 _ _ => (4294967296 - intOf v0).toNat)
  case atStart => exact ⟨0, d, rfl, rfl, by omega, ⟨by have := H0.out; have := H1.out; simp; omega⟩, ⟨by simp⟩, Drawn0.refl _⟩
  case round =>
    obtain ⟨k, e, rfl, rfl, hk, HE, HV, ⟨nw, rfl⟩⟩ := hrel
    obtain ⟨e0, e1, e2⟩ := HE.out
    have E2 := Aside0.mk e2
    clear e2
    by_cases hc : e < 2147483648
    · go_wp2
      have hk31 : k ≠ 31 := by
        rintro rfl
        have := E2.out
        have e3 : (2 : Int) ^ 31 = 2147483648 := by decide
        omega
      have e4 := E2.out
      exact ⟨⟨k + 1, e * 2, rfl, by go_num, by omega, ⟨by rw [Int.pow_succ]; omega⟩, ⟨by rw [HV.out, Int.pow_succ, Int.mul_assoc]⟩, ⟨_, rfl⟩⟩, by simp [intOf]; omega⟩
    · go_wp2
      have hv := HV.out
      exact bodyPost_ret (v := .int .i64 k) (by simp [results, Try.results99]) rfl ⟨k, rfl, hk, by rw [← hv]; omega, by rw [← hv]; omega, ⟨_, rfl⟩⟩
end Go.Proofs.Ytlaidcoickeihaa.Nb
namespace Go.Proofs.Ytlaidcoickeihaa.Nb
open Go.RowKit Go.Proofs.Ytlaidcoickeihaa.Wd.PrintWords Go.Proofs.Ytlaidcoickeihaa.Wd.PrintLast Go.Proofs.Ytlaidcoickeihaa.Wd.PrintMore Go.Proofs.Ytlaidcoickeihaa.Big
set_option synthInstance.maxSize 2000
set_option synthInstance.maxHeartbeats 400000
theorem shift_or64 (x o : Int) (s : Nat) (hs : s ≤ 31) (hx : 0 ≤ x ∧ x < 4294967296) (ho : 0 ≤ o) (ho1 : o < 2 ^ s) :
    IntKind.u64.wrap (x * 2 ^ s) = x * 2 ^ s ∧ 0 ≤ x * 2 ^ s ∧ bits .or .u64 (x * 2 ^ s) o = x * 2 ^ s + o ∧ (x * 2 ^ s + o) / 4294967296 < 2 ^ s ∧ (2 : Int) ^ s ≤ 2147483648 ∧ x * 2 ^ s + o ≤ 18446744073709551615 := by
  obtain ⟨n, rfl⟩ := Int.eq_ofNat_of_zero_le hx.1
  obtain ⟨m, rfl⟩ := Int.eq_ofNat_of_zero_le ho
  have hp31 : 2 ^ s ≤ 2 ^ 31 := Nat.pow_le_pow_right (by decide) hs
  have hm : m < 2 ^ s := by exact_mod_cast ho1
  have hn : n < 4294967296 := by omega
  have e : ((n : Int) * 2 ^ s) = ((n * 2 ^ s : Nat) : Int) := by rw [Int.natCast_mul, Int.natCast_pow]; rfl
  have e2 : ((2 : Int) ^ s) = ((2 ^ s : Nat) : Int) := by rw [Int.natCast_pow]; rfl
  have hT2 : n * 2 ^ s + 2 ^ s ≤ 4294967296 * 2 ^ s := by rw [← Nat.succ_mul]; exact Nat.mul_le_mul_right _ hn
  rw [e, e2]
  have hor : (n * 2 ^ s) ||| m = n * 2 ^ s + m := by
    rw [Nat.mul_comm, ← Nat.two_pow_add_eq_or_of_lt hm]
  generalize n * 2 ^ s = T at *
  generalize 2 ^ s = p at *
  refine ⟨IntWalk.u64_in _ (by omega), by omega, ?_, by omega, by omega, by omega⟩
  rw [u64_or_nat _ _ (by omega) (by omega), hor]
  omega
set_option maxHeartbeats 4000000 in
set_option maxRecDepth 100000 in
theorem rshifted_any (w : World) (A0 : Option Addr) (c0 : Nat) (a : List Int) (s : Nat) (h0 : Wd w A0 a) (d0 : Dg a) (hn : a.length ≤ 70368744177000) (hs : s ≤ 31) :
    Calls Try.prog 100 #[.slice A0 a.length c0, .int .i64 (s : Int)] w (NewD w (2 ^ s * (val a).toNat)) := by
  have H0 := Aside0.mk h0
  have D0 := Aside0.mk d0
  clear h0 d0
  have hmk := mk_words ((a.length : Int) + 1) (by omega) (by omega)
  go_enter Try.func100, Try.ntmps100
  go_wp2
  clear hmk
  go_loopw [6, 15] (fun v6 v15 W => ∃ (i : Nat) (o : Int) (xs : List Int), v6 = .int .u64 o ∧ v15 = .int .i64 i ∧ i ≤ a.length ∧ Aside0 (Fill w w.heap.size (a.length + 1) i xs W) ∧ Aside0 (0 ≤ o ∧ o < 2 ^ s) ∧ Aside0 (val xs + 4294967296 ^ i * o = 2 ^ s * val (a.take i))) (fun _ v15 _ => a.length - (intOf v15).toNat)
  case atStart => exact ⟨0, 0, _, rfl, rfl, Nat.zero_le _, ⟨Fill.start _ _⟩, ⟨Int.le_refl _, Int.pow_pos (by decide)⟩, ⟨by simp [val_replicate, val_nil]⟩⟩
  case round =>
    obtain ⟨i, o, xs, rfl, rfl, hi, HF, HO, HV⟩ := hrel
    by_cases hlt : i < a.length
    · obtain ⟨ad0, e0, x0⟩ := wd_at (wd_below H0.out HF.out.below) i hlt
      subst e0
      have y0 := dg_get D0.out i
      have o0 := HF.out.own.cell i (by rw [HF.out.len]; omega)
      have f0 := HF.out.own.frozen i
      have HE := Aside0.mk (val_take_succ a i)
      generalize a.getD i 0 = x at *
      obtain ⟨t1, t2, t3, t4, t5, t6⟩ := shift_or64 x o s hs y0 HO.out.1 HO.out.2
      have t7 : 0 ≤ x * 2 ^ s + o := by have := HO.out.1; omega
      have HX := Aside0.mk (Int.mul_ediv_add_emod (x * 2 ^ s + o) 4294967296)
      go_wp2
      exact ⟨⟨i + 1, (x * 2 ^ s + o) / 4294967296, xs.set i ((x * 2 ^ s + o) % 4294967296), rfl, by go_num, by omega, ⟨HF.out.put _ (by omega)⟩, ⟨by omega, t4⟩, ⟨by
        have e := HX.out
        have v := HV.out
        rw [HF.out.val (by omega), HE.out, Int.pow_succ]
        generalize (x * 2 ^ s + o) / 4294967296 = q at *
        generalize (x * 2 ^ s + o) % 4294967296 = r at *
        have : 4294967296 ^ i * (x * 2 ^ s + o) = 4294967296 ^ i * (4294967296 * q + r) := by rw [e]
        grind⟩⟩, by simp [intOf]; omega⟩
    · have HI := Aside0.mk (show i = a.length by omega)
      obtain rfl := HI.out
      have o0 := HF.out.own.cell a.length (by rw [HF.out.len]; omega)
      have f0 := HF.out.own.frozen a.length
      have hp31 : (2 : Int) ^ s ≤ 2147483648 := (shift_or64 0 o s hs (by omega) HO.out.1 HO.out.2).2.2.2.2.1
      have ho0 := HO.out.1
      have ho1 : o < 2147483648 := Int.lt_of_lt_of_le HO.out.2 hp31
      clear hp31
      have HG := Aside0.mk (HF.out.put o ⟨ho0, by omega⟩)
      have hv : val (xs.set a.length o) = ((2 ^ s * (val a).toNat : Nat) : Int) := by
        have hv := HV.out
        rw [List.take_length] at hv
        have h1 := val_nonneg D0.out
        rw [HF.out.val (by omega), hv, Int.natCast_mul, Int.natCast_pow, Int.toNat_of_nonneg h1]; rfl
      have HVV := Aside0.mk hv
      have hgl := HG.out.len
      have HGL := Aside0.mk hgl
      clear hv hgl
      go_wp2_with (go_at_call 82; rw [← HGL.out]; refine (rtrimmed_any _ (some ⟨w.heap.size, 0, none⟩) (xs.set a.length o).length (xs.set a.length o) (HG.out.own.wd ?hl2) HG.out.dg (Nat.le_refl _)).mono ?_; (case hl2 => rw [HGL.out]; omega); rintro e w2 ⟨rfl, hdr⟩; have HDR := Aside0.mk hdr; clear hdr)
      have hfin := NewD.of HG.out.own HG.out.dg HVV.out (by rw [HGL.out]; omega) HG.out.base HG.out.below HDR.out
      rw [List.length_set] at hfin
      exact bodyPost_ret (v := .slice (some ⟨w.heap.size, 0, none⟩) (dig (val (xs.set a.length o)).toNat).length xs.length) (by simp [results, Try.results100]) rfl hfin
end Go.Proofs.Ytlaidcoickeihaa.Nb
namespace Go.Proofs.Ytlaidcoickeihaa.Nb
open Go.RowKit Go.Proofs.Ytlaidcoickeihaa.Wd.PrintWords Go.Proofs.Ytlaidcoickeihaa.Wd.PrintLast Go.Proofs.Ytlaidcoickeihaa.Wd.PrintMore Go.Proofs.Ytlaidcoickeihaa.Big
set_option synthInstance.maxSize 2000
set_option synthInstance.maxHeartbeats 400000
def NewR (w : World) (n : Nat) (e : Ending) (w' : World) : Prop :=
  ∃ A c, e = .returned (.slice A (dig n).length c) ∧ WN w' (fun k => w.heap.size ≤ k) A c n ∧ Below w.heap.size w w'
theorem wd_reads {w : World} {A : Option Addr} {l : List Int} (h : Wd w A l) : ReadsInt w .u32 A l.length l := by
  refine ⟨rfl, wd_len h, fun hp => ?_⟩
  obtain ⟨ad, e, _⟩ := wd_at h 0 hp
  refine ⟨ad, e, fun j hj => ?_⟩
  obtain ⟨ad', e', hc⟩ := wd_at h j hj
  rw [e] at e'; cases e'
  exact hc
theorem row_made (W : World) (k : Nat) (hk : k ≤ 70368744177664) : (W.alloc (.cells (nums .u32 (List.replicate k 0)).toArray 116)).ownsRow W.heap.size 116 1 (.slice (some ⟨W.heap.size, 0, none⟩) k k) (List.replicate k (0 : Int)).length (nums .u32 (List.replicate k 0)) := by
  have h := World.ownsRow_lit (base := W.heap.size) (e := 116) (size := 1) W (nums .u32 (List.replicate k 0)).toArray k (Nat.le_refl _) (by simp [maxLen]; omega) (by simp [nums])
  simpa using h
theorem wd_cells {W : World} {g : Nat} {xs : List Int} (h : ∀ j p, xs[j]? = some p → W.cell? ⟨g, j, none⟩ = some (.int .u32 p)) (hl : xs.length ≤ 9223372036854775807) : Wd W (some ⟨g, 0, none⟩) xs := by
  refine ⟨rfl, hl, fun _ => ⟨_, rfl, fun j p hj => ?_⟩⟩
  refine ⟨[.int .u32 p], rfl, rfl, fun i u hi => ?_⟩
  cases i with
  | zero =>
    have e := h j p hj
    simp at hi
    subst hi
    have ea : (⟨g, 0, none⟩ : Addr).add (j * 1 + 0) = ⟨g, j, none⟩ := by
      unfold Addr.add; by_cases h0 : j = 0 <;> simp [h0]
    show W.cell? (Addr.add ⟨g, 0, none⟩ (j * 1 + 0)) = _
    rw [ea]; simpa using e
  | succ i => simp at hi
theorem row_wd {W : World} {base : Nat} {v : Value} {xs : List Int} (h : W.ownsRow base 116 1 v xs.length (nums .u32 xs)) (hp : 0 < xs.length) : ∃ g c, v = .slice (some ⟨g, 0, none⟩) xs.length c ∧ base ≤ g ∧ xs.length ≤ c ∧ Wd W (some ⟨g, 0, none⟩) xs := by
  have h' := h
  obtain ⟨h1, h2 | ⟨g, cap, cur, rfl, hg, hb, hn, hm, hs, ht⟩⟩ := h
  · omega
  · refine ⟨g, cap, rfl, hg, hn, wd_cells (fun j p hj => ?_) (by simp [maxLen] at hm; omega)⟩
    have hjl := (List.getElem?_eq_some_iff.1 hj).1
    have := h'.cells (g := g) rfl j (.int .u32 p) (by simp [nums, hj])
    rwa [add_plain] at this
set_option maxHeartbeats 4000000 in
set_option maxRecDepth 100000 in
theorem rraised_any (w : World) (A : Option Addr) (c n k : Nat) (h : Wd w A (dig n)) (hk : k + (dig n).length ≤ 35184372088832) :
    Calls Try.prog 102 #[.slice A (dig n).length c, .int .i64 k] w (NewR w (n * 4294967296 ^ k)) := by
  have H := Aside0.mk h
  clear h
  have hmk := mk_words (k : Int) (by omega) (by omega)
  by_cases hn : n = 0
  · subst hn
    rw [dig_zero, Nat.zero_mul]
    clear hmk
    go_enter Try.func102, Try.ntmps102
    go_wp2
    exact bodyPost_ret (v := .slice none 0 0) (by simp [results, Try.results102]) rfl ⟨none, 0, by rw [dig_zero]; rfl, ⟨by rw [dig_zero]; exact ⟨rfl, by simp, fun h => by simp at h⟩, by rw [dig_zero]; exact Nat.le_refl _, fun ad h => by cases h⟩, Below.refl _ _⟩
  · have hl : (((dig n).length : Int) == 0) = false := by
      have := @dig_len_ne n hn
      rw [beq_eq_false_iff_ne]; omega
    go_enter Try.func102, Try.ntmps102
    have hd : dig (n * 4294967296 ^ k) = List.replicate k 0 ++ dig n := by
      have e : val (List.replicate k 0 ++ dig n) = ((n * 4294967296 ^ k : Nat) : Int) := by
        rw [val_append, val_replicate, dig_val, List.length_replicate]
        simp [Int.mul_comm]
      have := dig_of (l := List.replicate k 0 ++ dig n) (by
        intro x hx
        rcases List.mem_append.1 hx with h | h
        · rw [List.eq_of_mem_replicate h]; omega
        · exact dig_dg n x h) (by
        intro x hx
        rw [List.getLast?_append] at hx
        have hne : (dig n).getLast? ≠ none := by rw [Ne, List.getLast?_eq_none_iff]; exact fun h => by have := @dig_len_ne n hn; rw [h] at this; simp at this
        obtain ⟨y, hy⟩ := Option.ne_none_iff_exists'.1 hne
        rw [hy] at hx
        simp at hx
        subst hx
        exact dig_top n y hy)
      rw [e] at this
      rw [this]; rfl
    have HD := Aside0.mk hd
    have HN := Aside0.mk hn
    have HK := Aside0.mk hk
    clear hd hn
    go_wp2_with (at_builtin; refine print_append_row (w0 := w) w.heap.size rfl _ _ 83 116 .u32 4 rfl Try.underlying83 info_w (by decide) _ (List.replicate k 0) (dig n) A (dig n).length c rfl rfl (row_made w k (by have := HK.out; omega)) ((wd_reads H.out).below (below_alloc (Below.refl _ _) _)) (below_alloc (Below.refl _ _) _) (by simp) (by rw [List.length_replicate]; have := HK.out; omega) ?_; intro v1 w1 ho hb hgr hor; obtain ⟨g, c1, rfl, hg, hc1, hw⟩ := row_wd ho (by rw [List.length_append]; have := dig_len_ne HN.out; omega); have HG := Aside0.mk hg; have HC := Aside0.mk hc1; have HW := Aside0.mk hw; have HB := Aside0.mk hb; clear ho hb hgr hor hg hc1 hw)
    have hd := HD.out
    have hlen : k + (dig n).length = (dig (n * 4294967296 ^ k)).length := by rw [hd, List.length_append, List.length_replicate]
    refine bodyPost_ret (v := .slice (some ⟨g, 0, none⟩) (k + (dig n).length) c1) (by simp [results, Try.results102]) rfl ⟨some ⟨g, 0, none⟩, c1, by rw [hlen], ⟨by rw [hd]; exact HW.out, ?_, fun ad ha _ => by cases ha; exact HG.out⟩, HB.out⟩
    rw [hd]; exact HC.out
end Go.Proofs.Ytlaidcoickeihaa.Nb
namespace Go.Proofs.Ytlaidcoickeihaa.Nb
open Go.RowKit Go.Proofs.Ytlaidcoickeihaa.Big
theorem dig_getD (n j : Nat) : (dig n).getD j 0 = ((n / 4294967296 ^ j % 4294967296 : Nat) : Int) := by
  induction j generalizing n with
  | zero =>
    by_cases h : n = 0
    · subst h; rw [dig_zero]; rfl
    · rw [dig_pos h]; simp
  | succ j ih =>
    by_cases h : n = 0
    · subst h; rw [dig_zero]; simp
    · rw [dig_pos h, List.getD_cons_succ, ih, Nat.div_div_eq_div_mul, Nat.pow_succ, Nat.mul_comm]
theorem head_is {R L n i : Nat} (hL : L < 4294967296 ^ n) (hn : 1 ≤ n) (hR : R < L * 4294967296 ^ (i + 1)) :
    (R / 4294967296 ^ (i + n) % 4294967296) * 4294967296 + R / 4294967296 ^ (i + n - 1) % 4294967296 = R / 4294967296 ^ (i + n - 1) := by
  obtain ⟨t, rfl⟩ : ∃ t, n = t + 1 := ⟨n - 1, by omega⟩
  have h1 : R < 4294967296 ^ (t + 1) * 4294967296 ^ (i + 1) := Nat.lt_of_lt_of_le hR (Nat.mul_le_mul_right _ (Nat.le_of_lt hL))
  rw [← Nat.pow_add] at h1
  rw [show i + (t + 1) - 1 = i + t by omega, show i + (t + 1) = (i + t) + 1 by omega, Nat.pow_succ, ← Nat.div_div_eq_div_mul]
  have h2 : R / 4294967296 ^ (i + t) < 4294967296 * 4294967296 := by
    rw [Nat.div_lt_iff_lt_mul (Nat.pow_pos (by decide))]
    refine Nat.lt_of_lt_of_le h1 (Nat.le_of_eq ?_)
    rw [show t + 1 + (i + 1) = (i + t) + 2 by omega, Nat.pow_add, Nat.mul_comm]
  generalize R / 4294967296 ^ (i + t) = x at *
  have h3 : x / 4294967296 < 4294967296 := (Nat.div_lt_iff_lt_mul (by decide)).2 h2
  rw [Nat.mod_eq_of_lt h3]
  omega
theorem guess_ge {R L n i : Nat} (hL : L < 4294967296 ^ n) (hn : 1 ≤ n) (hl : 4294967296 ^ (n - 1) ≤ L) (hR : R < L * 4294967296 ^ (i + 1)) :
    R / (L * 4294967296 ^ i) ≤ (R / 4294967296 ^ (i + n - 1)) / (L / 4294967296 ^ (n - 1)) ∧ R / (L * 4294967296 ^ i) < 4294967296 := by
  obtain ⟨t, rfl⟩ : ∃ t, n = t + 1 := ⟨n - 1, by omega⟩
  rw [show i + (t + 1) - 1 = i + t by omega, show t + 1 - 1 = t by omega] at *
  have hp : 0 < 4294967296 ^ t := Nat.pow_pos (by decide)
  have hpi : 0 < 4294967296 ^ i := Nat.pow_pos (by decide)
  have hL0 : 0 < L := Nat.lt_of_lt_of_le hp hl
  have hLi : 0 < L * 4294967296 ^ i := Nat.mul_pos hL0 hpi
  constructor
  · have hl1 : 0 < L / 4294967296 ^ t := Nat.div_pos hl hp
    rw [Nat.le_div_iff_mul_le hl1, Nat.le_div_iff_mul_le (Nat.pow_pos (by decide))]
    have h1 : R / (L * 4294967296 ^ i) * (L * 4294967296 ^ i) ≤ R := Nat.div_mul_le_self _ _
    refine Nat.le_trans ?_ h1
    generalize R / (L * 4294967296 ^ i) = q
    have h2 : L / 4294967296 ^ t * 4294967296 ^ t ≤ L := Nat.div_mul_le_self _ _
    calc q * (L / 4294967296 ^ t) * 4294967296 ^ (i + t) = q * ((L / 4294967296 ^ t * 4294967296 ^ t) * 4294967296 ^ i) := by rw [Nat.pow_add]; grind
      _ ≤ q * (L * 4294967296 ^ i) := Nat.mul_le_mul_left _ (Nat.mul_le_mul_right _ h2)
  · rw [Nat.div_lt_iff_lt_mul hLi]
    refine Nat.lt_of_lt_of_le hR (Nat.le_of_eq ?_)
    rw [Nat.pow_succ]; grind
theorem start_bound {R L n k : Nat} (hl : 4294967296 ^ (n - 1) ≤ L) (hn : 1 ≤ n) (hR : R < 4294967296 ^ k) (hk : n ≤ k) : R < L * 4294967296 ^ (k - n + 1) := by
  refine Nat.lt_of_lt_of_le hR (Nat.le_trans (Nat.le_of_eq ?_) (Nat.mul_le_mul_right _ hl))
  rw [← Nat.pow_add]; congr 1; omega
theorem guess_facts {Q L i p : Nat} {t1 t2 e : Int} (hp : (dig L).length = p + 1) (hQ : Q < L * 4294967296 ^ (i + 1)) (h1 : (dig Q).getD (i + (dig L).length) 0 = t1) (h2 : (dig Q).getD (i + (dig L).length - 1) 0 = t2) (he : (dig L).getD p 0 = e) :
    ∃ H E : Nat, t1 * 4294967296 + t2 = (H : Int) ∧ e = (E : Int) ∧ 0 < E ∧ E < 4294967296 ∧ H < 18446744073709551616 ∧ Q / (L * 4294967296 ^ i) ≤ H / E ∧ Q / (L * 4294967296 ^ i) < 4294967296 := by
  have hL0 : L ≠ 0 := by rintro rfl; rw [dig_zero] at hp; simp at hp
  have hL : L < 4294967296 ^ (p + 1) := by rw [← hp]; exact dig_lt L
  have hl : 4294967296 ^ p ≤ L := by have := le_of_len hL0; rwa [hp, Nat.add_sub_cancel] at this
  have g := guess_ge (i := i) hL (by omega) (by rwa [Nat.add_sub_cancel]) hQ
  have hd := head_is (i := i) hL (by omega) hQ
  rw [show i + (p + 1) - 1 = i + p by omega] at g hd
  rw [Nat.add_sub_cancel] at g
  rw [hp] at h1 h2
  rw [show i + (p + 1) - 1 = i + p by omega] at h2
  rw [dig_getD] at h1 h2 he
  have hE : L / 4294967296 ^ p < 4294967296 := by
    rw [Nat.div_lt_iff_lt_mul (Nat.pow_pos (by decide))]
    rw [Nat.pow_succ, Nat.mul_comm] at hL
    exact hL
  rw [Nat.mod_eq_of_lt hE] at he
  refine ⟨Q / 4294967296 ^ (i + p), L / 4294967296 ^ p, ?_, he.symm, Nat.div_pos hl (Nat.pow_pos (by decide)), hE, ?_, g.1, g.2⟩
  · rw [← h1, ← h2, ← hd]; simp
  · rw [← hd]
    have m1 := Nat.mod_lt (Q / 4294967296 ^ (i + (p + 1))) (show 0 < 4294967296 by decide)
    have m2 := Nat.mod_lt (Q / 4294967296 ^ (i + p)) (show 0 < 4294967296 by decide)
    omega
theorem or32 {a b : Int} (ha : 0 ≤ a ∧ a < 4294967296) (hb : 0 ≤ b ∧ b < 4294967296) : bits .or .u64 (a * 4294967296) b = a * 4294967296 + b := by
  obtain ⟨n, rfl⟩ := Int.eq_ofNat_of_zero_le ha.1
  obtain ⟨m, rfl⟩ := Int.eq_ofNat_of_zero_le hb.1
  have hm : m < 2 ^ 32 := by omega
  have hor : (n * 2 ^ 32) ||| m = n * 2 ^ 32 + m := by rw [Nat.mul_comm, ← Nat.two_pow_add_eq_or_of_lt hm]
  have e : ((n : Int) * 4294967296) = ((n * 2 ^ 32 : Nat) : Int) := by omega
  rw [e, u64_or_nat _ _ (by omega) (by omega), hor]
  omega
theorem digit_is {Q L i g : Nat} (hL : 0 < L) (hq : Q / (L * 4294967296 ^ i) ≤ g) (hle : g * L * 4294967296 ^ i ≤ Q) : Q - g * L * 4294967296 ^ i < L * 4294967296 ^ i := by
  have hp : 0 < L * 4294967296 ^ i := Nat.mul_pos hL (Nat.pow_pos (by decide))
  have h1 : g ≤ Q / (L * 4294967296 ^ i) := by rw [Nat.le_div_iff_mul_le hp]; rw [Nat.mul_assoc] at hle; exact hle
  have e : g = Q / (L * 4294967296 ^ i) := Nat.le_antisymm h1 hq
  have h2 := Nat.div_add_mod Q (L * 4294967296 ^ i)
  have h3 := Nat.mod_lt Q hp
  rw [← e] at h2
  have : g * L * 4294967296 ^ i = L * 4294967296 ^ i * g := by rw [Nat.mul_assoc, Nat.mul_comm]
  omega
theorem part_less {L i g : Nat} (h : 0 < g) : g * L * 4294967296 ^ i - L * 4294967296 ^ i = (g - 1) * L * 4294967296 ^ i := by
  obtain ⟨k, rfl⟩ : ∃ k, g = k + 1 := ⟨g - 1, by omega⟩
  rw [Nat.add_sub_cancel, Nat.mul_assoc, Nat.mul_assoc, Nat.succ_mul, Nat.add_sub_cancel]
theorem account {xs : List Int} {L Q R i g : Nat} (h : val xs * (L : Int) + (Q : Int) = R) (hle : g * L * 4294967296 ^ i ≤ Q) : (val xs + 4294967296 ^ i * (g : Int)) * (L : Int) + ((Q - g * L * 4294967296 ^ i : Nat) : Int) = R := by
  rw [Int.ofNat_sub hle, ← h]
  simp only [Int.natCast_mul, Int.natCast_pow]
  rw [show ((4294967296 : Nat) : Int) = 4294967296 from rfl]
  grind
end Go.Proofs.Ytlaidcoickeihaa.Nb
