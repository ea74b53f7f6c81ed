/- What the functions that NumberField reaches come to, and the law itself, without Go and memory. -/
import Derived.Test.YtgecbfemlpmpeaaSNumberField
import Derived.Test.YtgecbfemlpmpeaaLaws
namespace Go.Proofs.Ytgecbfemlpmpeaa.SNumberField
open Go.RowKit Go.Proofs.Ytgecbfemlpmpeaa.Wd.PrintWords Go.Proofs.Ytgecbfemlpmpeaa.Plain
set_option linter.unusedVariables false
set_option linter.unusedSimpArgs false

theorem w64 {n : Int} (h : I64 n) : wrap64 n = n := by unfold I64 at h; unfold wrap64; omega
theorem wu64 (n : Int) : IntKind.u64.wrap n = n % 18446744073709551616 := by simp [IntKind.wrap, IntKind.bits, IntKind.signed]
theorem ev_pos {α : Type} {c : Prop} [Decidable c] {f g : Nat → Option α} {r : α} (h : c) (k : Ev f r) : Ev (fun n => if c then f n else g n) r := by simpa only [if_pos h] using k
theorem ev_neg {α : Type} {c : Prop} [Decidable c] {f g : Nat → Option α} {r : α} (h : ¬ c) (k : Ev g r) : Ev (fun n => if c then f n else g n) r := by simpa only [if_neg h] using k
theorem ev_const {α : Type} {x : Option α} {r : α} (h : x = some r) : Ev (fun _ => x) r := ⟨0, fun _ _ => h⟩
theorem ev_bind {α β : Type} {x : Option α} {f : Nat → α → Option β} {a : α} {r : β} (h : x = some a) (k : Ev (fun n => f n a) r) : Ev (fun n => x.bind (f n)) r := by
  subst h
  exact k
theorem i64_of {n : Int} (h : (Lit.int .i64 n).wf = true) : I64 n := by
  simp [Lit.wf] at h
  exact h
theorem ev_eq {α : Type} {f : Nat → Option α} {r s : α} (h : Ev f r) (e : r = s) : Ev f s := e ▸ h
theorem ev_ite {α : Type} {c : Prop} [Decidable c] {f g : Nat → Option α} {r s : α} (h : c → Ev f r) (k : ¬ c → Ev g s) : Ev (fun n => if c then f n else g n) (if c then r else s) := by
  by_cases e : c
  · rw [if_pos e]; exact ev_pos e (h e)
  · rw [if_neg e]; exact ev_neg e (k e)
theorem size_is {n : Int} (h : I64 n) : ratio_size.f n = some (n.natAbs : Int) := by
  unfold I64 at h
  unfold ratio_size.f
  simp only [wu64]
  split
  · congr 1; omega
  · congr 1; omega
theorem divisor_l0 : ∀ (b a : Nat), Ev (fun k => ratio_divisor.l0 k (a : Int) (b : Int)) ((Nat.gcd a b : Nat) : Int) := by
  intro b
  induction b using Nat.strongRecOn with
  | ind b ih =>
    intro a
    refine Ev.step (f := fun k => if (b : Int) = 0 then (some (a : Int)) else (ratio_divisor.l0 k (b : Int) (Int.tmod (a : Int) (b : Int)))) (fun k => by simp only [ratio_divisor.l0]) ?_
    by_cases hb : b = 0
    · subst hb
      refine ev_pos rfl (ev_const ?_)
      simp
    · refine ev_neg (by omega) ?_
      have h := ih (a % b) (Nat.mod_lt _ (by omega)) b
      rw [Int.ofNat_tmod] at h
      rw [Nat.gcd_comm, Nat.gcd_rec, Nat.gcd_comm]
      exact h
theorem divisor_ev (a b : Nat) : Ev (fun k => ratio_divisor.f k (a : Int) (b : Int)) ((Nat.gcd a b : Nat) : Int) := divisor_l0 b a
theorem is_ev {a : Q} (h : I64Q a) : Ev (fun k => ratio_Is.f k a.1 a.2) (okQ a) := by
  obtain ⟨n, d⟩ := a
  obtain ⟨h1, h2⟩ := h
  simp only at h1 h2
  show Ev (fun k => ratio_Is.f k n d) (isQ n d)
  unfold ratio_Is.f
  by_cases c1 : d ≥ 1
  · refine ev_pos c1 ?_
    by_cases c2 : d ≤ 1073741824
    · refine ev_pos c2 ?_
      by_cases c3 : n ≥ (-1073741824)
      · refine ev_pos c3 ?_
        by_cases c4 : n ≤ 1073741824
        · refine ev_pos c4 (ev_bind (size_is h1) (ev_bind (size_is h2) (Ev.bind (divisor_ev n.natAbs d.natAbs) (ev_const ?_))))
          congr 1
          rw [Bool.eq_iff_iff, isQ_iff]
          simp only [beq_iff_eq]
          omega
        · exact ev_neg c4 (ev_const (by rw [isQ_false.2 (by omega)]))
      · exact ev_neg c3 (ev_const (by rw [isQ_false.2 (by omega)]))
    · exact ev_neg c2 (ev_const (by rw [isQ_false.2 (by omega)]))
  · exact ev_neg c1 (ev_const (by rw [isQ_false.2 (by omega)]))
theorem make_ev {n d : Int} (hn : I64 n) (hd : I64 d) : Ev (fun k => ratio_Make.f k n d) (mk n d) := by
  have hn' := hn
  have hd' := hd
  unfold I64 at hn' hd'
  unfold ratio_Make.f
  by_cases c : d = 0
  · subst c
    refine ev_pos rfl (ev_const ?_)
    rw [mk_zero_den]
  · refine ev_neg c (ev_bind (size_is hn) (ev_bind (size_is hd) (Ev.bind (divisor_ev n.natAbs d.natAbs) ?_)))
    obtain ⟨l1, l2, l3, l4⟩ := lowest n.natAbs d.natAbs (by omega)
    have hg := gcd_pos_of (n := n) c
    have e1 : (Int.tdiv (n.natAbs : Int) ((Nat.gcd n.natAbs d.natAbs : Nat) : Int)) = ((n.natAbs / Nat.gcd n.natAbs d.natAbs : Nat) : Int) := by rw [← Int.ofNat_tdiv]
    have e2 : (Int.tdiv (d.natAbs : Int) ((Nat.gcd n.natAbs d.natAbs : Nat) : Int)) = ((d.natAbs / Nat.gcd n.natAbs d.natAbs : Nat) : Int) := by rw [← Int.ofNat_tdiv]
    have b1 := Nat.div_le_self n.natAbs (Nat.gcd n.natAbs d.natAbs)
    have b2 := Nat.div_le_self d.natAbs (Nat.gcd n.natAbs d.natAbs)
    simp only [e1, e2]
    refine ev_neg (by omega) ?_
    unfold mk
    rw [if_neg c]
    clear l1 l3 l4
    generalize n.natAbs / Nat.gcd n.natAbs d.natAbs = x at *
    generalize d.natAbs / Nat.gcd n.natAbs d.natAbs = y at *
    have w1 : IntKind.u64.wrap (x : Int) = (x : Int) := by rw [wu64]; omega
    have w2 : IntKind.u64.wrap (y : Int) = (y : Int) := by rw [wu64]; omega
    simp only [w1, w2]
    have j : ∀ b : Bool, b = true → Ev (fun k => ratio_Make.j0 k n d (x : Int) (y : Int) b) (0, 0) := by
      intro b hb
      subst hb
      refine Ev.step (f := fun k => (if true = true then (some ((0 : Int), (0 : Int))) else (if ((decide (n < 0)) != (decide (d < 0))) = true then (some (wrap64 (-(wrap64 ((x : Int)))), wrap64 ((y : Int)))) else (some (wrap64 ((x : Int)), wrap64 ((y : Int))))))) (fun k => by simp only [ratio_Make.j0]) (ev_pos rfl (ev_const rfl))
    by_cases c1 : 1073741824 < x
    · rw [if_pos (Or.inl c1)]
      exact ev_pos (by omega) (j _ rfl)
    · refine ev_neg (by omega) ?_
      by_cases c2 : 1073741824 < y
      · rw [if_pos (Or.inr c2)]
        exact j _ (by simp; omega)
      · rw [if_neg (by omega)]
        have e : decide ((y : Int) > 1073741824) = false := by simp; omega
        simp only [e]
        clear w1 w2 e1 e2 j
        have hx : wrap64 (x : Int) = (x : Int) := w64 (by unfold I64; omega)
        have hy : wrap64 (y : Int) = (y : Int) := w64 (by unfold I64; omega)
        have hz : wrap64 (-(x : Int)) = -(x : Int) := w64 (n := -(x : Int)) (by unfold I64; omega)
        refine Ev.step (f := fun k => (if false = true then (some ((0 : Int), (0 : Int))) else (if ((decide (n < 0)) != (decide (d < 0))) = true then (some (wrap64 (-(wrap64 ((x : Int)))), wrap64 ((y : Int)))) else (some (wrap64 ((x : Int)), wrap64 ((y : Int))))))) (fun k => by simp only [ratio_Make.j0]) ?_
        simp only [hx, hy, hz]
        refine ev_neg (by decide) ?_
        by_cases k : n < 0 ↔ d < 0
        · rw [if_pos k]
          refine ev_neg ?_ (ev_const rfl)
          by_cases k1 : n < 0
          · simp [k1, k.1 k1]
          · simp [k1, show ¬ d < 0 from fun h => k1 (k.2 h)]
        · rw [if_neg k]
          refine ev_pos ?_ (ev_const rfl)
          by_cases k1 : n < 0 <;> by_cases k2 : d < 0 <;> simp [k1, k2] at k ⊢
theorem rdivisor_l0 : ∀ (b a : Nat), Ev (fun k => serinetteref01_Divisor.l0 k (a : Int) (b : Int)) ((Nat.gcd a b : Nat) : Int) := by
  intro b
  induction b using Nat.strongRecOn with
  | ind b ih =>
    intro a
    refine Ev.step (f := fun k => if (b : Int) = 0 then (some (a : Int)) else (serinetteref01_Divisor.l0 k (b : Int) (Int.tmod (a : Int) (b : Int)))) (fun k => by simp only [serinetteref01_Divisor.l0]) ?_
    by_cases hb : b = 0
    · subst hb
      refine ev_pos rfl (ev_const ?_)
      simp
    · refine ev_neg (by omega) ?_
      have h := ih (a % b) (Nat.mod_lt _ (by omega)) b
      rw [Int.ofNat_tmod] at h
      rw [Nat.gcd_comm, Nat.gcd_rec, Nat.gcd_comm]
      exact h
theorem rdivisor_ev {a b : Int} (ha : I64 a) (hb : I64 b) (ha' : a ≠ -9223372036854775808) (hb' : b ≠ -9223372036854775808) : Ev (fun k => serinetteref01_Divisor.f k a b) ((Nat.gcd a.natAbs b.natAbs : Nat) : Int) := by
  unfold I64 at ha hb
  have j1 : ∀ (x y : Int), x = (a.natAbs : Int) → y = (b.natAbs : Int) → Ev (fun k => serinetteref01_Divisor.j1 k x y) ((Nat.gcd a.natAbs b.natAbs : Nat) : Int) := by
    intro x y hx hy
    subst hx hy
    exact Ev.step (f := fun k => serinetteref01_Divisor.l0 k (a.natAbs : Int) (b.natAbs : Int)) (fun k => by simp only [serinetteref01_Divisor.j1]) (rdivisor_l0 _ _)
  have j0 : ∀ (x : Int), x = (a.natAbs : Int) → Ev (fun k => serinetteref01_Divisor.j0 k x b) ((Nat.gcd a.natAbs b.natAbs : Nat) : Int) := by
    intro x hx
    refine Ev.step (f := fun k => if b < 0 then (serinetteref01_Divisor.j1 k x (wrap64 (-b))) else (serinetteref01_Divisor.j1 k x b)) (fun k => by simp only [serinetteref01_Divisor.j0]) ?_
    by_cases c : b < 0
    · refine ev_pos c (j1 _ _ hx ?_)
      rw [w64 (by unfold I64; omega)]; omega
    · exact ev_neg c (j1 _ _ hx (by omega))
  unfold serinetteref01_Divisor.f
  by_cases c : a < 0
  · refine ev_pos c (j0 _ ?_)
    rw [w64 (by unfold I64; omega)]; omega
  · exact ev_neg c (j0 _ (by omega))
theorem ris_ev {a : Q} (h : I64Q a) : Ev (fun k => serinetteref01_Is.f k a.1 a.2) (okQ a) := by
  obtain ⟨n, d⟩ := a
  obtain ⟨h1, h2⟩ := h
  simp only at h1 h2
  show Ev (fun k => serinetteref01_Is.f k n d) (isQ n d)
  unfold serinetteref01_Is.f
  by_cases c1 : d ≥ 1
  · refine ev_pos c1 ?_
    by_cases c2 : d ≤ 1073741824
    · refine ev_pos c2 ?_
      by_cases c3 : n ≥ (-1073741824)
      · refine ev_pos c3 ?_
        by_cases c4 : n ≤ 1073741824
        · refine ev_pos c4 (Ev.bind (rdivisor_ev h1 h2 (by omega) (by omega)) (ev_const ?_))
          congr 1
          rw [Bool.eq_iff_iff, isQ_iff]
          simp only [beq_iff_eq]
          omega
        · exact ev_neg c4 (ev_const (by rw [isQ_false.2 (by omega)]))
      · exact ev_neg c3 (ev_const (by rw [isQ_false.2 (by omega)]))
    · exact ev_neg c2 (ev_const (by rw [isQ_false.2 (by omega)]))
  · exact ev_neg c1 (ev_const (by rw [isQ_false.2 (by omega)]))
theorem rclean_ev {a : Q} (h : I64Q a) : Ev (fun k => serinetteref01_Clean.f k a.1 a.2) (cleanQ a) := by
  unfold serinetteref01_Clean.f cleanQ
  refine Ev.bind (ris_ev h) ?_
  by_cases c : okQ a = true
  · exact ev_pos c (ev_const (by rw [if_pos c]))
  · exact ev_neg c (ev_const (by rw [if_neg c]; rfl))
theorem mul_bound {x y A B : Int} (h1 : -A ≤ x) (h2 : x ≤ A) (h3 : -B ≤ y) (h4 : y ≤ B) : -(A * B) ≤ x * y ∧ x * y ≤ A * B := by
  have hx : x.natAbs ≤ A.toNat := by omega
  have hy : y.natAbs ≤ B.toNat := by omega
  have h := Nat.mul_le_mul hx hy
  rw [← Int.natAbs_mul] at h
  have e : ((A.toNat * B.toNat : Nat) : Int) = A * B := by
    rw [Int.natCast_mul, Int.toNat_of_nonneg (by omega), Int.toNat_of_nonneg (by omega)]
  omega
theorem okQ_mul {a b : Q} (ha : okQ a = true) (hb : okQ b = true) :
    (-1152921504606846976 ≤ a.1 * b.2 ∧ a.1 * b.2 ≤ 1152921504606846976) ∧ (-1152921504606846976 ≤ b.1 * a.2 ∧ b.1 * a.2 ≤ 1152921504606846976) ∧ (-1152921504606846976 ≤ a.2 * b.2 ∧ a.2 * b.2 ≤ 1152921504606846976) ∧ (-1152921504606846976 ≤ a.1 * b.1 ∧ a.1 * b.1 ≤ 1152921504606846976) ∧ (-1152921504606846976 ≤ a.2 * b.1 ∧ a.2 * b.1 ≤ 1152921504606846976) := by
  have h1 := okQ_bounds ha
  have h2 := okQ_bounds hb
  exact ⟨mul_bound (A := 1073741824) (B := 1073741824) (by omega) (by omega) (by omega) (by omega), mul_bound (A := 1073741824) (B := 1073741824) (by omega) (by omega) (by omega) (by omega), mul_bound (A := 1073741824) (B := 1073741824) (by omega) (by omega) (by omega) (by omega), mul_bound (A := 1073741824) (B := 1073741824) (by omega) (by omega) (by omega) (by omega), mul_bound (A := 1073741824) (B := 1073741824) (by omega) (by omega) (by omega) (by omega)⟩
theorem add_ev {a b : Q} (ha : I64Q a) (hb : I64Q b) : Ev (fun k => ratio_Add.f k a.1 a.2 b.1 b.2) (addQ a b) := by
  unfold ratio_Add.f addQ
  refine Ev.bind (is_ev ha) ?_
  by_cases c : okQ a = true
  · rw [if_pos c]
    refine ev_pos c (Ev.bind (is_ev hb) ?_)
    by_cases c2 : okQ b = true
    · rw [if_pos c2]
      have m := okQ_mul c c2
      rw [w64 (n := a.1 * b.2) (by unfold I64; omega), w64 (n := b.1 * a.2) (by unfold I64; omega), w64 (n := a.1 * b.2 + b.1 * a.2) (by unfold I64; omega), w64 (n := a.2 * b.2) (by unfold I64; omega)]
      exact ev_pos c2 (Ev.bind (make_ev (by unfold I64; omega) (by unfold I64; omega)) (ev_const rfl))
    · rw [if_neg c2]; exact ev_neg c2 (ev_const rfl)
  · rw [if_neg c]; exact ev_neg c (ev_const rfl)
theorem mul_ev {a b : Q} (ha : I64Q a) (hb : I64Q b) : Ev (fun k => ratio_Mul.f k a.1 a.2 b.1 b.2) (mulQ a b) := by
  unfold ratio_Mul.f mulQ
  refine Ev.bind (is_ev ha) ?_
  by_cases c : okQ a = true
  · rw [if_pos c]
    refine ev_pos c (Ev.bind (is_ev hb) ?_)
    by_cases c2 : okQ b = true
    · rw [if_pos c2]
      have m := okQ_mul c c2
      rw [w64 (n := a.1 * b.1) (by unfold I64; omega), w64 (n := a.2 * b.2) (by unfold I64; omega)]
      exact ev_pos c2 (Ev.bind (make_ev (by unfold I64; omega) (by unfold I64; omega)) (ev_const rfl))
    · rw [if_neg c2]; exact ev_neg c2 (ev_const rfl)
  · rw [if_neg c]; exact ev_neg c (ev_const rfl)
theorem awake_ev : Ev (fun k => serinettelaw01_awake.f k) true := by
  unfold serinettelaw01_awake.f
  refine Ev.bind (add_ev (a := (1, 3)) (b := (1, 6)) (by unfold I64Q I64; simp) (by unfold I64Q I64; simp)) ?_
  have e : addQ (1, 3) (1, 6) = (1, 2) := by decide +kernel
  rw [e]
  refine ev_pos rfl (Ev.bind (mul_ev (a := (1073741824, 1)) (b := (2, 1)) (by unfold I64Q I64; simp) (by unfold I64Q I64; simp)) (ev_const ?_))
  have e2 : mulQ (1073741824, 1) (2, 1) = (0, 0) := by decide +kernel
  rw [e2]
  rfl
theorem sign_is (x y : Int) : ratio_sign.f (decide (x < y)) (decide (x > y)) = some (sgn x y) := by
  unfold ratio_sign.f sgn
  by_cases c : x < y
  · simp [c]
  · by_cases c2 : x > y
    · simp [c, c2]
    · simp [c, c2]
theorem cmp_ev {a b : Q} (ha : I64Q a) (hb : I64Q b) : Ev (fun k => ratio_Cmp.f k a.1 a.2 b.1 b.2) (cmpQ a b) := by
  unfold ratio_Cmp.f cmpQ
  refine Ev.bind (is_ev ha) (Ev.bind (is_ev hb) ?_)
  by_cases c : okQ a = true
  · rw [if_pos c]
    refine ev_pos c ?_
    refine Ev.step (fun k => ratio_Cmp.j0.eq_2 ..) ?_
    by_cases c2 : okQ b = true
    · rw [if_pos c2]
      refine ev_neg (by simp [c2]) ?_
      have m := okQ_mul c c2
      rw [w64 (n := a.1 * b.2) (by unfold I64; omega), w64 (n := b.1 * a.2) (by unfold I64; omega)]
      exact ev_bind (sign_is _ _) (ev_const rfl)
    · rw [if_neg c2]
      rw [Bool.not_eq_true] at c2
      refine ev_pos (by simp [c2]) (ev_pos c (ev_const ?_))
      rw [c2]
      rfl
  · rw [if_neg c]
    refine ev_neg c ?_
    refine Ev.step (fun k => ratio_Cmp.j0.eq_2 ..) ?_
    refine ev_pos rfl (ev_neg c (ev_const ?_))
    by_cases c2 : okQ b = true
    · rw [if_pos c2, c2]; rfl
    · rw [if_neg c2]
      rw [Bool.not_eq_true] at c2
      rw [c2]; rfl
theorem div_ev {a b : Q} (ha : I64Q a) (hb : I64Q b) : Ev (fun k => ratio_Div.f k a.1 a.2 b.1 b.2) (divQ a b) := by
  unfold ratio_Div.f divQ
  refine Ev.bind (is_ev ha) ?_
  by_cases c : okQ a = true
  · rw [if_pos c]
    refine ev_pos c (Ev.bind (is_ev hb) ?_)
    by_cases c2 : okQ b = true
    · rw [if_pos c2]
      have m := okQ_mul c c2
      rw [w64 (n := a.1 * b.2) (by unfold I64; omega), w64 (n := a.2 * b.1) (by unfold I64; omega)]
      exact ev_pos c2 (Ev.bind (make_ev (by unfold I64; omega) (by unfold I64; omega)) (ev_const rfl))
    · rw [if_neg c2]; exact ev_neg c2 (ev_const rfl)
  · rw [if_neg c]; exact ev_neg c (ev_const rfl)
theorem min_none (a b : Q) : Ev (fun k => ratio_Min.j0 k true a.1 a.2 b.1 b.2) (0, 0) := by
  refine Ev.step (fun k => ratio_Min.j0.eq_2 ..) (ev_pos rfl (ev_const rfl))
theorem min_ev {a b : Q} (ha : I64Q a) (hb : I64Q b) : Ev (fun k => ratio_Min.f k a.1 a.2 b.1 b.2) (minQ a b) := by
  unfold ratio_Min.f minQ
  refine Ev.bind (is_ev ha) (ev_ite (fun c => Ev.bind (is_ev hb) ?_) (fun _ => min_none a b))
  by_cases c2 : okQ b = true
  · rw [if_pos c2, c2]
    refine Ev.step (fun k => ratio_Min.j0.eq_2 ..) (ev_neg (by decide) (Ev.bind (cmp_ev hb ha) ?_))
    exact ev_ite (fun _ => ev_const rfl) (fun _ => ev_const rfl)
  · rw [if_neg c2]
    rw [Bool.not_eq_true] at c2
    rw [c2]
    exact min_none a b
theorem tmod_I64 {x y : Int} (hx : -1152921504606846976 ≤ x ∧ x ≤ 1152921504606846976) : -1152921504606846976 ≤ Int.tmod x y ∧ Int.tmod x y ≤ 1152921504606846976 := by
  have h : (Int.tmod x y).natAbs ≤ x.natAbs := by
    rw [Int.natAbs_tmod]
    exact Nat.mod_le _ _
  omega
theorem mod_way {f : Nat → Int → Option (Int × Int)} {x y D : Int} (hx : -1152921504606846976 ≤ x ∧ x ≤ 1152921504606846976) (hy : -1152921504606846976 ≤ y ∧ y ≤ 1152921504606846976) (hf : ∀ m, I64 m → Ev (fun k => f k m) (mk m D)) (hy0 : y ≠ 0) :
    Ev (fun k => if y = 0 then none else (if (Int.tmod x y) = 0 then (f k (Int.tmod x y)) else (if ((decide ((Int.tmod x y) < 0)) != (decide (y < 0))) = true then (f k (wrap64 ((Int.tmod x y) + y))) else (f k (Int.tmod x y))))) (mk (fm x y) D) := by
  have t := tmod_I64 (y := y) hx
  refine ev_neg hy0 ?_
  unfold fm
  by_cases c1 : Int.tmod x y = 0
  · rw [if_pos c1]; exact ev_pos c1 (hf _ (by unfold I64; omega))
  · rw [if_neg c1]
    refine ev_neg c1 ?_
    by_cases c2 : ((decide ((Int.tmod x y) < 0)) != (decide (y < 0))) = true
    · rw [if_pos c2, w64 (by unfold I64; omega)]; exact ev_pos c2 (hf _ (by unfold I64; omega))
    · rw [if_neg c2]; exact ev_neg c2 (hf _ (by unfold I64; omega))
theorem mod_none (a b : Q) : Ev (fun k => ratio_Mod.j0 k true a.1 a.2 b.1 b.2) (0, 0) := by
  refine Ev.step (fun k => ratio_Mod.j0.eq_2 ..) (ev_pos rfl (ev_const rfl))
theorem mod_ev {a b : Q} (ha : I64Q a) (hb : I64Q b) : Ev (fun k => ratio_Mod.f k a.1 a.2 b.1 b.2) (modQ a b) := by
  unfold ratio_Mod.f modQ
  refine Ev.bind (is_ev ha) (ev_ite (fun c => Ev.bind (is_ev hb) (ev_ite (fun c2 => ?_) (fun _ => mod_none a b))) (fun _ => mod_none a b))
  by_cases c3 : b.1 = 0
  · rw [if_pos c3, show (b.1 == 0) = true by simpa using c3]
    exact mod_none a b
  · rw [if_neg c3, show (b.1 == 0) = false by simpa using c3]
    have m := okQ_mul c c2
    have ba := okQ_bounds c
    refine Ev.step (fun k => ratio_Mod.j0.eq_2 ..) (ev_neg (by decide) ?_)
    rw [w64 (n := a.1 * b.2) (by unfold I64; omega), w64 (n := b.1 * a.2) (by unfold I64; omega), w64 (n := a.2 * b.2) (by unfold I64; omega)]
    refine mod_way (f := fun k m => (ratio_Make.f k m (a.2 * b.2)).bind fun bt => (some (bt.1, bt.2))) m.1 m.2.1 (fun q hq => Ev.bind (make_ev hq (by unfold I64; omega)) (ev_const rfl)) ?_
    intro h
    rcases Int.mul_eq_zero.1 h with h | h <;> omega
/-- Are all of them numbers? -/
def allQ (l : List S24) : Bool := l.all fun x => okQ (x.f0, x.f1)
theorem numbers_l0 (l : List S24) (hl : l.length ≤ 1000) (hw : ∀ x ∈ l, I64 x.f0 ∧ I64 x.f1) : ∀ (d i : Nat), i + d = l.length →
    Ev (fun k => serinettelaw01_numbers.l0 k l (l.length : Int) (i : Int)) (allQ (l.drop i)) := by
  intro d
  induction d with
  | zero =>
    intro i hi
    refine Ev.step (fun k => serinettelaw01_numbers.l0.eq_2 ..) (ev_neg (by omega) (ev_const ?_))
    rw [List.drop_eq_nil_of_le (by omega)]
    rfl
  | succ d ih =>
    intro i hi
    have hlt : i < l.length := by omega
    refine Ev.step (fun k => serinettelaw01_numbers.l0.eq_2 ..) (ev_pos (by omega) (ev_pos (by omega) (ev_pos (by omega) ?_)))
    have hr : rd_T24 l (i : Int) = l[i] := by simp [rd_T24, List.getD_eq_getElem?_getD, List.getElem?_eq_getElem hlt]
    rw [hr]
    have hx := hw l[i] (List.getElem_mem hlt)
    refine Ev.bind (is_ev (a := (l[i].f0, l[i].f1)) hx) ?_
    rw [w64 (n := (i : Int) + 1) (by unfold I64; omega)]
    have e : allQ (l.drop i) = (okQ (l[i].f0, l[i].f1) && allQ (l.drop (i + 1))) := by rw [List.drop_eq_getElem_cons hlt]; rfl
    rw [e]
    by_cases c : okQ (l[i].f0, l[i].f1) = true
    · refine ev_pos c ?_
      rw [c, Bool.true_and]
      exact ih (i + 1) (by omega)
    · refine ev_neg c (ev_const ?_)
      rw [Bool.not_eq_true] at c
      rw [c]; rfl
theorem numbers_ev {l : List S24} (hl : l.length ≤ 1000) (hw : ∀ x ∈ l, I64 x.f0 ∧ I64 x.f1) : Ev (fun k => serinettelaw01_numbers.f k l) (allQ l) := by
  have := numbers_l0 l hl hw l.length 0 (by omega)
  exact this
theorem numbers1_ev {a : Q} (ha : I64Q a) : Ev (fun k => serinettelaw01_numbers.f k [(⟨a.1, a.2⟩ : S24)]) (okQ a) := by
  refine ev_eq (numbers_ev (by simp) (by intro x hx; rw [List.mem_singleton.1 hx]; exact ha)) ?_
  simp [allQ]
theorem numbers2_ev {a b : Q} (ha : I64Q a) (hb : I64Q b) : Ev (fun k => serinettelaw01_numbers.f k [(⟨a.1, a.2⟩ : S24), (⟨b.1, b.2⟩ : S24)]) (okQ a && okQ b) := by
  refine ev_eq (numbers_ev (by simp) (by intro x hx; rcases List.mem_cons.1 hx with h | h; rw [h]; exact ha; rw [List.mem_singleton.1 h]; exact hb)) ?_
  simp [allQ]
theorem numbers4_ev {a b c d : Q} (ha : I64Q a) (hb : I64Q b) (hc : I64Q c) (hd : I64Q d) : Ev (fun k => serinettelaw01_numbers.f k [(⟨a.1, a.2⟩ : S24), (⟨b.1, b.2⟩ : S24), (⟨c.1, c.2⟩ : S24), (⟨d.1, d.2⟩ : S24)]) (okQ a && okQ b && okQ c && okQ d) := by
  refine ev_eq (numbers_ev (by simp) ?_) ?_
  · intro x hx
    simp only [List.mem_cons, List.not_mem_nil, or_false] at hx
    rcases hx with h | h | h | h <;> rw [h] <;> assumption
  · simp [allQ, Bool.and_assoc]
theorem ne_pair (x y : Q) : (!(x.1 == y.1) || (!(x.2 == y.2))) = decide (x ≠ y) := by
  rw [Bool.eq_iff_iff]
  simp only [Bool.or_eq_true, Bool.not_eq_true', beq_eq_false_iff_ne, ne_eq, decide_eq_true_eq]
  constructor
  · rintro (h | h) e
    · exact h (by rw [e])
    · exact h (by rw [e])
  · intro h
    by_cases c : x.1 = y.1
    · right; intro c2; exact h (Prod.ext c c2)
    · exact .inl c
theorem field_j4 {a b c : Q} (ha : I64Q a) (hb : I64Q b) (hc : I64Q c) : Ev (fun k => serinettelaw01_NumberField.j4 k false a.1 a.2 b.1 b.2 c.1 c.2) true := by
  refine Ev.step (fun k => serinettelaw01_NumberField.j4.eq_2 ..) (ev_neg (by decide) ?_)
  refine Ev.bind (add_ev ha hc) (Ev.bind (add_ev hb hc) (Ev.bind (numbers4_ev ha hb (addQ_I64 a c) (addQ_I64 b c)) ?_))
  by_cases e : (okQ a && okQ b && okQ (addQ a c) && okQ (addQ b c)) = true
  · refine ev_pos e (Ev.bind (cmp_ev ha hb) (Ev.bind (add_ev ha hc) (Ev.bind (add_ev hb hc) (Ev.bind (cmp_ev (addQ_I64 a c) (addQ_I64 b c)) (ev_pos ?_ (Ev.bind awake_ev (ev_const rfl)))))))
    simp only [Bool.and_eq_true] at e
    exact cmp_shift e.1.2 e.2
  · exact ev_neg e (Ev.bind awake_ev (ev_const rfl))
theorem field_j3 {a b c : Q} (ha : I64Q a) (hb : I64Q b) (hc : I64Q c) : Ev (fun k => serinettelaw01_NumberField.j3 k false a.1 a.2 b.1 b.2 c.1 c.2) true := by
  refine Ev.step (fun k => serinettelaw01_NumberField.j3.eq_2 ..) (ev_neg (by decide) ?_)
  refine Ev.bind (div_ev ha hb) (Ev.bind (numbers1_ev (divQ_I64 a b)) ?_)
  by_cases e : okQ (divQ a b) = true
  · refine ev_pos e (Ev.bind (div_ev ha hb) (Ev.bind (mul_ev (divQ_I64 a b) hb) (Ev.bind (rclean_ev ha) ?_)))
    rw [ne_pair, div_mul e]
    simp only [ne_eq, not_true_eq_false, decide_false]
    exact field_j4 ha hb hc
  · exact ev_neg e (field_j4 ha hb hc)
theorem field_j2 {a b c : Q} (ha : I64Q a) (hb : I64Q b) (hc : I64Q c) : Ev (fun k => serinettelaw01_NumberField.j2 k false a.1 a.2 b.1 b.2 c.1 c.2) true := by
  refine Ev.step (fun k => serinettelaw01_NumberField.j2.eq_2 ..) (ev_neg (by decide) ?_)
  refine Ev.bind (add_ev ha hb) (Ev.bind (mul_ev (addQ_I64 a b) hc) (Ev.bind (mul_ev ha hc) (Ev.bind (mul_ev hb hc) (Ev.bind (add_ev (mulQ_I64 a c) (mulQ_I64 b c)) (Ev.bind (numbers2_ev (mulQ_I64 _ _) (addQ_I64 _ _)) ?_)))))
  by_cases e : (okQ (mulQ (addQ a b) c) && okQ (addQ (mulQ a c) (mulQ b c))) = true
  · refine ev_pos e ?_
    rw [Bool.and_eq_true] at e
    rw [ne_pair, distrib e.1 e.2]
    simp only [ne_eq, not_true_eq_false, decide_false]
    exact field_j3 ha hb hc
  · exact ev_neg e (field_j3 ha hb hc)
theorem field_j1 {a b c : Q} (ha : I64Q a) (hb : I64Q b) (hc : I64Q c) : Ev (fun k => serinettelaw01_NumberField.j1 k false a.1 a.2 b.1 b.2 c.1 c.2 (addQ a b).1 (addQ a b).2) true := by
  refine Ev.step (fun k => serinettelaw01_NumberField.j1.eq_2 ..) (ev_neg (by decide) ?_)
  refine Ev.bind (add_ev (addQ_I64 a b) hc) (Ev.bind (add_ev hb hc) (Ev.bind (add_ev ha (addQ_I64 b c)) (Ev.bind (numbers2_ev (addQ_I64 _ _) (addQ_I64 _ _)) ?_)))
  by_cases e : (okQ (addQ (addQ a b) c) && okQ (addQ a (addQ b c))) = true
  · refine ev_pos e ?_
    rw [Bool.and_eq_true] at e
    rw [ne_pair, add_assoc e.1 e.2]
    simp only [ne_eq, not_true_eq_false, decide_false]
    exact field_j2 ha hb hc
  · exact ev_neg e (field_j2 ha hb hc)
theorem field_j0 {a b c : Q} (ha : I64Q a) (hb : I64Q b) (hc : I64Q c) : Ev (fun k => serinettelaw01_NumberField.j0 k false a.1 a.2 b.1 b.2 c.1 c.2 (addQ a b).1 (addQ a b).2 (mulQ a b).1 (mulQ a b).2) true := by
  refine Ev.step (fun k => serinettelaw01_NumberField.j0.eq_2 ..) (ev_neg (by decide) ?_)
  refine Ev.bind (numbers2_ev ha hb) ?_
  by_cases e : (okQ a && okQ b) = true
  · exact ev_pos e (field_j1 ha hb hc)
  · have e' : ¬ (okQ a = true ∧ okQ b = true) := by rw [← Bool.and_eq_true]; exact e
    refine ev_neg e (Ev.bind (numbers1_ev (addQ_I64 a b)) (ev_neg (by rw [addQ_none e']; decide) ?_))
    refine Ev.bind (numbers1_ev (mulQ_I64 a b)) (ev_neg (by rw [mulQ_none e']; decide) ?_)
    refine Ev.bind (min_ev ha hb) (Ev.bind (numbers1_ev (minQ_I64 ha hb)) (ev_neg (by rw [minQ_none e']; decide) ?_))
    refine Ev.bind (mod_ev ha hb) (Ev.bind (numbers1_ev (modQ_I64 a b)) ?_)
    rw [show okQ (modQ a b) = false by rw [modQ_none e']; rfl]
    exact field_j1 ha hb hc
/-- The law, as plain Lean. -/
theorem pure {a b c : Q} (ha : I64Q a) (hb : I64Q b) (hc : I64Q c) : ∃ k, serinettelaw01_NumberField.f k a.1 a.2 b.1 b.2 c.1 c.2 = some true := by
  refine Ev.rounds ?_
  unfold serinettelaw01_NumberField.f
  refine Ev.bind (add_ev ha hb) (Ev.bind (mul_ev ha hb) (Ev.bind (add_ev hb ha) (ev_neg (by rw [ne_pair, addQ_comm]; simp) (Ev.bind (mul_ev hb ha) ?_))))
  rw [ne_pair, mulQ_comm b a]
  simp only [ne_eq, not_true_eq_false, decide_false]
  exact field_j0 ha hb hc

end Go.Proofs.Ytgecbfemlpmpeaa.SNumberField
