/- What the printed functions that NumberMakes reaches come to, and the law itself, without Go and memory. -/
import Derived.Test.YtgecbfemlpmpeaaPNumberMakesx
import Derived.Test.YtgecbfemlpmpeaaSpec
namespace Go.Proofs.Ytgecbfemlpmpeaa.PNumberMakes
open Go.RowKit Go.Proofs.YtgecbfemlpmpeaaW.PrintWords Go.Proofs.Ytgecbfemlpmpeaa.Plain
set_option linter.unusedVariables false
set_option linter.unusedSimpArgs false

theorem w64 {n : Int} (h : I64 n) : wrap64 n = n := by unfold I64 at h; unfold wrap64; omega
theorem wu64 (n : Int) : IntKind.u64.wrap n = n % 18446744073709551616 := by simp [IntKind.wrap, IntKind.bits, IntKind.signed]
theorem ev_pos {α : Type} {c : Prop} [Decidable c] {f g : Nat → Option α} {r : α} (h : c) (k : Ev f r) : Ev (fun n => if c then f n else g n) r := by simpa only [if_pos h] using k
theorem ev_neg {α : Type} {c : Prop} [Decidable c] {f g : Nat → Option α} {r : α} (h : ¬ c) (k : Ev g r) : Ev (fun n => if c then f n else g n) r := by simpa only [if_neg h] using k
theorem ev_const {α : Type} {x : Option α} {r : α} (h : x = some r) : Ev (fun _ => x) r := ⟨0, fun _ _ => h⟩
theorem ev_bind {α β : Type} {x : Option α} {f : Nat → α → Option β} {a : α} {r : β} (h : x = some a) (k : Ev (fun n => f n a) r) : Ev (fun n => x.bind (f n)) r := by
  subst h
  exact k
theorem i64_of {n : Int} (h : (Lit.int .i64 n).wf = true) : I64 n := by
  simp [Lit.wf] at h
  exact h
theorem size_is {n : Int} (h : I64 n) : ratio_size.f n = some (n.natAbs : Int) := by
  unfold I64 at h
  unfold ratio_size.f
  simp only [wu64]
  split
  · congr 1; omega
  · congr 1; omega
theorem divisor_l0 : ∀ (b a : Nat), Ev (fun k => ratio_divisor.l0 k (a : Int) (b : Int)) ((Nat.gcd a b : Nat) : Int) := by
  intro b
  induction b using Nat.strongRecOn with
  | ind b ih =>
    intro a
    refine Ev.step (f := fun k => if (b : Int) = 0 then (some (a : Int)) else (ratio_divisor.l0 k (b : Int) (Int.tmod (a : Int) (b : Int)))) (fun k => by simp only [ratio_divisor.l0]) ?_
    by_cases hb : b = 0
    · subst hb
      refine ev_pos rfl (ev_const ?_)
      simp
    · refine ev_neg (by omega) ?_
      have h := ih (a % b) (Nat.mod_lt _ (by omega)) b
      rw [Int.ofNat_tmod] at h
      rw [Nat.gcd_comm, Nat.gcd_rec, Nat.gcd_comm]
      exact h
theorem divisor_ev (a b : Nat) : Ev (fun k => ratio_divisor.f k (a : Int) (b : Int)) ((Nat.gcd a b : Nat) : Int) := divisor_l0 b a
theorem is_ev {a : Q} (h : I64Q a) : Ev (fun k => ratio_Is.f k a.1 a.2) (okQ a) := by
  obtain ⟨n, d⟩ := a
  obtain ⟨h1, h2⟩ := h
  simp only at h1 h2
  show Ev (fun k => ratio_Is.f k n d) (isQ n d)
  unfold ratio_Is.f
  by_cases c1 : d ≥ 1
  · refine ev_pos c1 ?_
    by_cases c2 : d ≤ 1073741824
    · refine ev_pos c2 ?_
      by_cases c3 : n ≥ (-1073741824)
      · refine ev_pos c3 ?_
        by_cases c4 : n ≤ 1073741824
        · refine ev_pos c4 (ev_bind (size_is h1) (ev_bind (size_is h2) (Ev.bind (divisor_ev n.natAbs d.natAbs) (ev_const ?_))))
          congr 1
          rw [Bool.eq_iff_iff, isQ_iff]
          simp only [beq_iff_eq]
          omega
        · exact ev_neg c4 (ev_const (by rw [isQ_false.2 (by omega)]))
      · exact ev_neg c3 (ev_const (by rw [isQ_false.2 (by omega)]))
    · exact ev_neg c2 (ev_const (by rw [isQ_false.2 (by omega)]))
  · exact ev_neg c1 (ev_const (by rw [isQ_false.2 (by omega)]))
theorem make_ev {n d : Int} (hn : I64 n) (hd : I64 d) : Ev (fun k => ratio_Make.f k n d) (mk n d) := by
  have hn' := hn
  have hd' := hd
  unfold I64 at hn' hd'
  unfold ratio_Make.f
  by_cases c : d = 0
  · subst c
    refine ev_pos rfl (ev_const ?_)
    rw [mk_zero_den]
  · refine ev_neg c (ev_bind (size_is hn) (ev_bind (size_is hd) (Ev.bind (divisor_ev n.natAbs d.natAbs) ?_)))
    obtain ⟨l1, l2, l3, l4⟩ := lowest n.natAbs d.natAbs (by omega)
    have hg := gcd_pos_of (n := n) c
    have e1 : (Int.tdiv (n.natAbs : Int) ((Nat.gcd n.natAbs d.natAbs : Nat) : Int)) = ((n.natAbs / Nat.gcd n.natAbs d.natAbs : Nat) : Int) := by rw [← Int.ofNat_tdiv]
    have e2 : (Int.tdiv (d.natAbs : Int) ((Nat.gcd n.natAbs d.natAbs : Nat) : Int)) = ((d.natAbs / Nat.gcd n.natAbs d.natAbs : Nat) : Int) := by rw [← Int.ofNat_tdiv]
    have b1 := Nat.div_le_self n.natAbs (Nat.gcd n.natAbs d.natAbs)
    have b2 := Nat.div_le_self d.natAbs (Nat.gcd n.natAbs d.natAbs)
    simp only [e1, e2]
    refine ev_neg (by omega) ?_
    unfold mk
    rw [if_neg c]
    clear l1 l3 l4
    generalize n.natAbs / Nat.gcd n.natAbs d.natAbs = x at *
    generalize d.natAbs / Nat.gcd n.natAbs d.natAbs = y at *
    have w1 : IntKind.u64.wrap (x : Int) = (x : Int) := by rw [wu64]; omega
    have w2 : IntKind.u64.wrap (y : Int) = (y : Int) := by rw [wu64]; omega
    simp only [w1, w2]
    have j : ∀ b : Bool, b = true → Ev (fun k => ratio_Make.j0 k n d (x : Int) (y : Int) b) (0, 0) := by
      intro b hb
      subst hb
      refine Ev.step (f := fun k => (if true = true then (some ((0 : Int), (0 : Int))) else (if ((decide (n < 0)) != (decide (d < 0))) = true then (some (wrap64 (-(wrap64 ((x : Int)))), wrap64 ((y : Int)))) else (some (wrap64 ((x : Int)), wrap64 ((y : Int))))))) (fun k => by simp only [ratio_Make.j0]) (ev_pos rfl (ev_const rfl))
    by_cases c1 : 1073741824 < x
    · rw [if_pos (Or.inl c1)]
      exact ev_pos (by omega) (j _ rfl)
    · refine ev_neg (by omega) ?_
      by_cases c2 : 1073741824 < y
      · rw [if_pos (Or.inr c2)]
        exact j _ (by simp; omega)
      · rw [if_neg (by omega)]
        have e : decide ((y : Int) > 1073741824) = false := by simp; omega
        simp only [e]
        clear w1 w2 e1 e2 j
        have hx : wrap64 (x : Int) = (x : Int) := w64 (by unfold I64; omega)
        have hy : wrap64 (y : Int) = (y : Int) := w64 (by unfold I64; omega)
        have hz : wrap64 (-(x : Int)) = -(x : Int) := w64 (n := -(x : Int)) (by unfold I64; omega)
        refine Ev.step (f := fun k => (if false = true then (some ((0 : Int), (0 : Int))) else (if ((decide (n < 0)) != (decide (d < 0))) = true then (some (wrap64 (-(wrap64 ((x : Int)))), wrap64 ((y : Int)))) else (some (wrap64 ((x : Int)), wrap64 ((y : Int))))))) (fun k => by simp only [ratio_Make.j0]) ?_
        simp only [hx, hy, hz]
        refine ev_neg (by decide) ?_
        by_cases k : n < 0 ↔ d < 0
        · rw [if_pos k]
          refine ev_neg ?_ (ev_const rfl)
          by_cases k1 : n < 0
          · simp [k1, k.1 k1]
          · simp [k1, show ¬ d < 0 from fun h => k1 (k.2 h)]
        · rw [if_neg k]
          refine ev_pos ?_ (ev_const rfl)
          by_cases k1 : n < 0 <;> by_cases k2 : d < 0 <;> simp [k1, k2] at k ⊢
theorem rdivisor_l0 : ∀ (b a : Nat), Ev (fun k => serinetteref01_Divisor.l0 k (a : Int) (b : Int)) ((Nat.gcd a b : Nat) : Int) := by
  intro b
  induction b using Nat.strongRecOn with
  | ind b ih =>
    intro a
    refine Ev.step (f := fun k => if (b : Int) = 0 then (some (a : Int)) else (serinetteref01_Divisor.l0 k (b : Int) (Int.tmod (a : Int) (b : Int)))) (fun k => by simp only [serinetteref01_Divisor.l0]) ?_
    by_cases hb : b = 0
    · subst hb
      refine ev_pos rfl (ev_const ?_)
      simp
    · refine ev_neg (by omega) ?_
      have h := ih (a % b) (Nat.mod_lt _ (by omega)) b
      rw [Int.ofNat_tmod] at h
      rw [Nat.gcd_comm, Nat.gcd_rec, Nat.gcd_comm]
      exact h
theorem rdivisor_ev {a b : Int} (ha : I64 a) (hb : I64 b) (ha' : a ≠ -9223372036854775808) (hb' : b ≠ -9223372036854775808) : Ev (fun k => serinetteref01_Divisor.f k a b) ((Nat.gcd a.natAbs b.natAbs : Nat) : Int) := by
  unfold I64 at ha hb
  have j1 : ∀ (x y : Int), x = (a.natAbs : Int) → y = (b.natAbs : Int) → Ev (fun k => serinetteref01_Divisor.j1 k x y) ((Nat.gcd a.natAbs b.natAbs : Nat) : Int) := by
    intro x y hx hy
    subst hx hy
    exact Ev.step (f := fun k => serinetteref01_Divisor.l0 k (a.natAbs : Int) (b.natAbs : Int)) (fun k => by simp only [serinetteref01_Divisor.j1]) (rdivisor_l0 _ _)
  have j0 : ∀ (x : Int), x = (a.natAbs : Int) → Ev (fun k => serinetteref01_Divisor.j0 k x b) ((Nat.gcd a.natAbs b.natAbs : Nat) : Int) := by
    intro x hx
    refine Ev.step (f := fun k => if b < 0 then (serinetteref01_Divisor.j1 k x (wrap64 (-b))) else (serinetteref01_Divisor.j1 k x b)) (fun k => by simp only [serinetteref01_Divisor.j0]) ?_
    by_cases c : b < 0
    · refine ev_pos c (j1 _ _ hx ?_)
      rw [w64 (by unfold I64; omega)]; omega
    · exact ev_neg c (j1 _ _ hx (by omega))
  unfold serinetteref01_Divisor.f
  by_cases c : a < 0
  · refine ev_pos c (j0 _ ?_)
    rw [w64 (by unfold I64; omega)]; omega
  · exact ev_neg c (j0 _ (by omega))
theorem ris_ev {a : Q} (h : I64Q a) : Ev (fun k => serinetteref01_Is.f k a.1 a.2) (okQ a) := by
  obtain ⟨n, d⟩ := a
  obtain ⟨h1, h2⟩ := h
  simp only at h1 h2
  show Ev (fun k => serinetteref01_Is.f k n d) (isQ n d)
  unfold serinetteref01_Is.f
  by_cases c1 : d ≥ 1
  · refine ev_pos c1 ?_
    by_cases c2 : d ≤ 1073741824
    · refine ev_pos c2 ?_
      by_cases c3 : n ≥ (-1073741824)
      · refine ev_pos c3 ?_
        by_cases c4 : n ≤ 1073741824
        · refine ev_pos c4 (Ev.bind (rdivisor_ev h1 h2 (by omega) (by omega)) (ev_const ?_))
          congr 1
          rw [Bool.eq_iff_iff, isQ_iff]
          simp only [beq_iff_eq]
          omega
        · exact ev_neg c4 (ev_const (by rw [isQ_false.2 (by omega)]))
      · exact ev_neg c3 (ev_const (by rw [isQ_false.2 (by omega)]))
    · exact ev_neg c2 (ev_const (by rw [isQ_false.2 (by omega)]))
  · exact ev_neg c1 (ev_const (by rw [isQ_false.2 (by omega)]))
theorem least_is {n : Int} (h : I64 n) : serinetteref01_least.f n = some (decide (n = -9223372036854775808)) := by
  unfold I64 at h
  unfold serinetteref01_least.f
  by_cases c : n = wrap64 (-n)
  · rw [if_pos c]
    unfold wrap64 at c
    congr 1
    rw [Bool.eq_iff_iff]
    simp
    omega
  · rw [if_neg c]
    unfold wrap64 at c
    congr 1
    symm
    simp
    omega
theorem rmake_j2 {n d : Int} (hn : I64 n) (hd : I64 d) (hn' : n ≠ -9223372036854775808) (c : 0 < d) : Ev (fun k => serinetteref01_Make.j2 k n d) (mk n d) := by
  refine Ev.step (f := fun k => (serinetteref01_Divisor.f k n d).bind fun t140 => (if t140 = 0 then (none) else ((serinetteref01_Is.f k (wrap64 (Int.tdiv n t140)) (wrap64 (Int.tdiv d t140))).bind fun t142 => (if t142 = true then (some (wrap64 (Int.tdiv n t140), wrap64 (Int.tdiv d t140))) else ((serinetteref01_None.f).bind fun bt143 => (some (bt143.1, bt143.2))))))) (fun k => by simp only [serinetteref01_Make.j2]) ?_
  refine Ev.bind (rdivisor_ev hn hd hn' (by omega)) ?_
  have hg := gcd_pos_of (n := n) (d := d) (by omega)
  obtain ⟨l1, l2, l3, l4⟩ := lowest n.natAbs d.natAbs (by omega)
  refine ev_neg (by omega) ?_
  unfold I64 at hn hd
  have b1 := Nat.div_le_self n.natAbs (Nat.gcd n.natAbs d.natAbs)
  have b2 := Nat.div_le_self d.natAbs (Nat.gcd n.natAbs d.natAbs)
  have e2 : Int.tdiv d ((Nat.gcd n.natAbs d.natAbs : Nat) : Int) = ((d.natAbs / Nat.gcd n.natAbs d.natAbs : Nat) : Int) := by
    rw [Int.ofNat_tdiv, show (d.natAbs : Int) = d by omega]
  have e1 : Int.tdiv n ((Nat.gcd n.natAbs d.natAbs : Nat) : Int) = if n < 0 then -((n.natAbs / Nat.gcd n.natAbs d.natAbs : Nat) : Int) else ((n.natAbs / Nat.gcd n.natAbs d.natAbs : Nat) : Int) := by
    split
    · rename_i hneg
      rw [Int.ofNat_tdiv, ← Int.neg_tdiv, show -(n.natAbs : Int) = n by omega]
    · rw [Int.ofNat_tdiv, show (n.natAbs : Int) = n by omega]
  have hv : ∀ v : Int, (v = ((n.natAbs / Nat.gcd n.natAbs d.natAbs : Nat) : Int) ∨ v = -((n.natAbs / Nat.gcd n.natAbs d.natAbs : Nat) : Int)) → I64 v ∧ v.natAbs = n.natAbs / Nat.gcd n.natAbs d.natAbs := by
    intro v h
    unfold I64
    clear l1 l2 l3 l4
    generalize n.natAbs / Nat.gcd n.natAbs d.natAbs = x at *
    omega
  have hv2 := hv (Int.tdiv n ((Nat.gcd n.natAbs d.natAbs : Nat) : Int)) (by rw [e1]; split <;> simp)
  have w1 : wrap64 (Int.tdiv n ((Nat.gcd n.natAbs d.natAbs : Nat) : Int)) = Int.tdiv n ((Nat.gcd n.natAbs d.natAbs : Nat) : Int) := w64 hv2.1
  have w2 : wrap64 (Int.tdiv d ((Nat.gcd n.natAbs d.natAbs : Nat) : Int)) = Int.tdiv d ((Nat.gcd n.natAbs d.natAbs : Nat) : Int) := w64 (by rw [e2]; unfold I64; omega)
  simp only [w1, w2]
  have hI : I64Q (Int.tdiv n ((Nat.gcd n.natAbs d.natAbs : Nat) : Int), Int.tdiv d ((Nat.gcd n.natAbs d.natAbs : Nat) : Int)) := by
    exact ⟨hv2.1, by simp only; rw [e2]; unfold I64; omega⟩
  refine Ev.bind (ris_ev hI) ?_
  have hval : okQ (Int.tdiv n ((Nat.gcd n.natAbs d.natAbs : Nat) : Int), Int.tdiv d ((Nat.gcd n.natAbs d.natAbs : Nat) : Int)) = decide (¬ (1073741824 < n.natAbs / Nat.gcd n.natAbs d.natAbs ∨ 1073741824 < d.natAbs / Nat.gcd n.natAbs d.natAbs)) := by
    unfold okQ
    simp only
    have q := hv2.2
    rw [Bool.eq_iff_iff, isQ_iff, hv2.2, e2, Int.natAbs_natCast, l1]
    simp only [decide_eq_true_eq, and_true]
    clear hI w1 w2 hv hv2 e1 e2 l1 l3 l4 b1
    generalize Int.tdiv n ((Nat.gcd n.natAbs d.natAbs : Nat) : Int) = v at *
    generalize n.natAbs / Nat.gcd n.natAbs d.natAbs = x at *
    generalize d.natAbs / Nat.gcd n.natAbs d.natAbs = y at *
    omega
  by_cases cc : 1073741824 < n.natAbs / Nat.gcd n.natAbs d.natAbs ∨ 1073741824 < d.natAbs / Nat.gcd n.natAbs d.natAbs
  · refine ev_neg (by rw [hval]; simp; omega) (ev_const ?_)
    unfold mk
    rw [if_neg (by omega), if_pos cc]
    rfl
  · refine ev_pos (by rw [hval]; simp; omega) (ev_const ?_)
    unfold mk
    rw [if_neg (by omega), if_neg cc, e1, e2]
    congr 2
    by_cases k : n < 0
    · rw [if_pos k, if_neg (by omega)]
    · rw [if_neg k, if_pos (by omega)]
theorem rmake_j1 {n d : Int} (hn : I64 n) (hd : I64 d) (hn' : n ≠ -9223372036854775808) (hd' : d ≠ -9223372036854775808) (c : d ≠ 0) : Ev (fun k => serinetteref01_Make.j1 k n d false) (mk n d) := by
  refine Ev.step (f := fun k => if false = true then (if (Int.tmod n 2) = 0 then (if (Int.tmod d 2) = 0 then (serinetteref01_Make.l0 k (wrap64 (Int.tdiv n 2)) (wrap64 (Int.tdiv d 2))) else ((serinetteref01_None.f).bind fun bt136 => (some (bt136.1, bt136.2)))) else ((serinetteref01_None.f).bind fun bt138 => (some (bt138.1, bt138.2)))) else (if d < 0 then (serinetteref01_Make.j2 k (wrap64 (-n)) (wrap64 (-d))) else (serinetteref01_Make.j2 k n d))) (fun k => by simp only [serinetteref01_Make.j1]) ?_
  refine ev_neg (by decide) ?_
  unfold I64 at hn hd
  by_cases k : d < 0
  · refine ev_pos k ?_
    rw [w64 (n := -n) (by unfold I64; omega), w64 (n := -d) (by unfold I64; omega)]
    rw [mk_cross (n := n) (d := d) (n' := -n) (d' := -d) c (by omega) (by rw [Int.mul_neg, Int.neg_mul])]
    exact rmake_j2 (by unfold I64; omega) (by unfold I64; omega) (by omega) (by omega)
  · exact ev_neg k (rmake_j2 hn hd hn' (by omega))
theorem rmake_l0 {n d : Int} (hn : I64 n) (hd : I64 d) (hn' : n ≠ -9223372036854775808) (hd' : d ≠ -9223372036854775808) (c : d ≠ 0) : Ev (fun k => serinetteref01_Make.l0 k n d) (mk n d) := by
  refine Ev.step (f := fun k => (serinetteref01_least.f n).bind fun t134 => (if t134 = true then (serinetteref01_Make.j1 k n d true) else ((serinetteref01_least.f d).bind fun t135 => (serinetteref01_Make.j1 k n d t135)))) (fun k => by simp only [serinetteref01_Make.l0]) ?_
  refine ev_bind (least_is hn) (ev_neg (by simpa using hn') (ev_bind (least_is hd) ?_))
  simp only [decide_eq_false hd']
  exact rmake_j1 hn hd hn' hd' c
theorem gcd_pow2 (d : Nat) (h : d % 2 = 1) : Nat.gcd 9223372036854775808 d = 1 := by
  have h2 : Nat.Coprime 2 d := by
    rw [Nat.coprime_iff_gcd_eq_one, Nat.gcd_rec, h]; decide
  have := Nat.Coprime.pow_left 63 h2
  exact this
theorem rmake_ev {n d : Int} (hn : I64 n) (hd : I64 d) : Ev (fun k => serinetteref01_Make.f k n d) (mk n d) := by
  unfold serinetteref01_Make.f
  by_cases c : d = 0
  · subst c
    refine ev_pos rfl (ev_const ?_)
    rw [mk_zero_den]
    rfl
  · refine ev_neg c ?_
    by_cases k : n ≠ -9223372036854775808 ∧ d ≠ -9223372036854775808
    · exact rmake_l0 hn hd k.1 k.2 c
    · have hn' := hn
      have hd' := hd
      unfold I64 at hn' hd'
      have j1 : Ev (fun k => serinetteref01_Make.j1 k n d true) (mk n d) := by
        refine Ev.step (f := fun k => if true = true then (if (Int.tmod n 2) = 0 then (if (Int.tmod d 2) = 0 then (serinetteref01_Make.l0 k (wrap64 (Int.tdiv n 2)) (wrap64 (Int.tdiv d 2))) else ((serinetteref01_None.f).bind fun bt136 => (some (bt136.1, bt136.2)))) else ((serinetteref01_None.f).bind fun bt138 => (some (bt138.1, bt138.2)))) else (if d < 0 then (serinetteref01_Make.j2 k (wrap64 (-n)) (wrap64 (-d))) else (serinetteref01_Make.j2 k n d))) (fun k => by simp only [serinetteref01_Make.j1]) ?_
        refine ev_pos rfl ?_
        have tm : ∀ m : Int, Int.tmod m 2 = 0 ↔ m % 2 = 0 := fun m => by
          rw [← Int.dvd_iff_tmod_eq_zero, ← Int.dvd_iff_emod_eq_zero]
        by_cases c1 : Int.tmod n 2 = 0
        · refine ev_pos c1 ?_
          rw [tm] at c1
          by_cases c2 : Int.tmod d 2 = 0
          · refine ev_pos c2 ?_
            rw [tm] at c2
            have t1 : Int.tdiv n 2 = n / 2 := Int.tdiv_eq_ediv_of_dvd (Int.dvd_of_emod_eq_zero c1)
            have t2 : Int.tdiv d 2 = d / 2 := Int.tdiv_eq_ediv_of_dvd (Int.dvd_of_emod_eq_zero c2)
            rw [t1, t2, w64 (n := n / 2) (by unfold I64; omega), w64 (n := d / 2) (by unfold I64; omega)]
            rw [mk_cross (n := n) (d := d) (n' := n / 2) (d' := d / 2) c (by omega) (by
              obtain ⟨x, hx⟩ := Int.dvd_of_emod_eq_zero c1
              obtain ⟨y, hy⟩ := Int.dvd_of_emod_eq_zero c2
              rw [show n / 2 = x by omega, show d / 2 = y by omega, hx, hy, Int.mul_comm 2 x, Int.mul_assoc])]
            exact rmake_l0 (by unfold I64; omega) (by unfold I64; omega) (by omega) (by omega) (by omega)
          · refine ev_neg c2 (ev_const ?_)
            rw [tm] at c2
            have hN : n = -9223372036854775808 := by omega
            subst hN
            unfold mk
            rw [if_neg c, if_pos (Or.inl (by
              rw [show Int.natAbs (-9223372036854775808) = 9223372036854775808 from rfl, gcd_pow2 _ (by omega)]; omega))]
            rfl
        · refine ev_neg c1 (ev_const ?_)
          rw [tm] at c1
          have hD : d = -9223372036854775808 := by omega
          subst hD
          unfold mk
          rw [if_neg c, if_pos (Or.inr (by
            rw [show Int.natAbs (-9223372036854775808) = 9223372036854775808 from rfl, Nat.gcd_comm, gcd_pow2 _ (by omega)]; omega))]
          rfl
      refine Ev.step (f := fun k => (serinetteref01_least.f n).bind fun t134 => (if t134 = true then (serinetteref01_Make.j1 k n d true) else ((serinetteref01_least.f d).bind fun t135 => (serinetteref01_Make.j1 k n d t135)))) (fun k => by simp only [serinetteref01_Make.l0]) ?_
      refine ev_bind (least_is hn) ?_
      by_cases e : n = -9223372036854775808
      · exact ev_pos (by simpa using e) j1
      · refine ev_neg (by simpa using e) (ev_bind (least_is hd) ?_)
        have e2 : d = -9223372036854775808 := by
          by_cases e2 : d = -9223372036854775808
          · exact e2
          · exact absurd ⟨e, e2⟩ k
        simp only [decide_eq_true e2]
        exact j1
theorem rboth_ev {a b : Q} (ha : I64Q a) (hb : I64Q b) : Ev (fun k => serinetteref01_both.f k a.1 a.2 b.1 b.2) (okQ a && okQ b) := by
  unfold serinetteref01_both.f
  refine Ev.bind (ris_ev ha) ?_
  by_cases c : okQ a = true
  · refine ev_pos c (Ev.bind (ris_ev hb) (ev_const ?_))
    rw [c]; rfl
  · refine ev_neg c (ev_const ?_)
    rw [Bool.not_eq_true] at c
    rw [c]; rfl
theorem mul_bound {x y A B : Int} (h1 : -A ≤ x) (h2 : x ≤ A) (h3 : -B ≤ y) (h4 : y ≤ B) : -(A * B) ≤ x * y ∧ x * y ≤ A * B := by
  have hx : x.natAbs ≤ A.toNat := by omega
  have hy : y.natAbs ≤ B.toNat := by omega
  have h := Nat.mul_le_mul hx hy
  rw [← Int.natAbs_mul] at h
  have e : ((A.toNat * B.toNat : Nat) : Int) = A * B := by
    rw [Int.natCast_mul, Int.toNat_of_nonneg (by omega), Int.toNat_of_nonneg (by omega)]
  omega
theorem okQ_mul {a b : Q} (ha : okQ a = true) (hb : okQ b = true) :
    (-1152921504606846976 ≤ a.1 * b.2 ∧ a.1 * b.2 ≤ 1152921504606846976) ∧ (-1152921504606846976 ≤ b.1 * a.2 ∧ b.1 * a.2 ≤ 1152921504606846976) ∧ (-1152921504606846976 ≤ a.2 * b.2 ∧ a.2 * b.2 ≤ 1152921504606846976) ∧ (-1152921504606846976 ≤ a.1 * b.1 ∧ a.1 * b.1 ≤ 1152921504606846976) ∧ (-1152921504606846976 ≤ a.2 * b.1 ∧ a.2 * b.1 ≤ 1152921504606846976) := by
  have h1 := okQ_bounds ha
  have h2 := okQ_bounds hb
  exact ⟨mul_bound (A := 1073741824) (B := 1073741824) (by omega) (by omega) (by omega) (by omega), mul_bound (A := 1073741824) (B := 1073741824) (by omega) (by omega) (by omega) (by omega), mul_bound (A := 1073741824) (B := 1073741824) (by omega) (by omega) (by omega) (by omega), mul_bound (A := 1073741824) (B := 1073741824) (by omega) (by omega) (by omega) (by omega), mul_bound (A := 1073741824) (B := 1073741824) (by omega) (by omega) (by omega) (by omega)⟩
theorem add_ev {a b : Q} (ha : I64Q a) (hb : I64Q b) : Ev (fun k => ratio_Add.f k a.1 a.2 b.1 b.2) (addQ a b) := by
  unfold ratio_Add.f addQ
  refine Ev.bind (is_ev ha) ?_
  by_cases c : okQ a = true
  · rw [if_pos c]
    refine ev_pos c (Ev.bind (is_ev hb) ?_)
    by_cases c2 : okQ b = true
    · rw [if_pos c2]
      have m := okQ_mul c c2
      rw [w64 (n := a.1 * b.2) (by unfold I64; omega), w64 (n := b.1 * a.2) (by unfold I64; omega), w64 (n := a.1 * b.2 + b.1 * a.2) (by unfold I64; omega), w64 (n := a.2 * b.2) (by unfold I64; omega)]
      exact ev_pos c2 (Ev.bind (make_ev (by unfold I64; omega) (by unfold I64; omega)) (ev_const rfl))
    · rw [if_neg c2]; exact ev_neg c2 (ev_const rfl)
  · rw [if_neg c]; exact ev_neg c (ev_const rfl)
theorem mul_ev {a b : Q} (ha : I64Q a) (hb : I64Q b) : Ev (fun k => ratio_Mul.f k a.1 a.2 b.1 b.2) (mulQ a b) := by
  unfold ratio_Mul.f mulQ
  refine Ev.bind (is_ev ha) ?_
  by_cases c : okQ a = true
  · rw [if_pos c]
    refine ev_pos c (Ev.bind (is_ev hb) ?_)
    by_cases c2 : okQ b = true
    · rw [if_pos c2]
      have m := okQ_mul c c2
      rw [w64 (n := a.1 * b.1) (by unfold I64; omega), w64 (n := a.2 * b.2) (by unfold I64; omega)]
      exact ev_pos c2 (Ev.bind (make_ev (by unfold I64; omega) (by unfold I64; omega)) (ev_const rfl))
    · rw [if_neg c2]; exact ev_neg c2 (ev_const rfl)
  · rw [if_neg c]; exact ev_neg c (ev_const rfl)
theorem awake_ev : Ev (fun k => serinettelaw01_awake.f k) true := by
  unfold serinettelaw01_awake.f
  refine Ev.bind (add_ev (a := (1, 3)) (b := (1, 6)) (by unfold I64Q I64; simp) (by unfold I64Q I64; simp)) ?_
  have e : addQ (1, 3) (1, 6) = (1, 2) := by decide +kernel
  rw [e]
  refine ev_pos rfl (Ev.bind (mul_ev (a := (1073741824, 1)) (b := (2, 1)) (by unfold I64Q I64; simp) (by unfold I64Q I64; simp)) (ev_const ?_))
  have e2 : mulQ (1073741824, 1) (2, 1) = (0, 0) := by decide +kernel
  rw [e2]
  rfl
theorem rwhole_ev {n : Int} (h : I64 n) : Ev (fun k => serinetteref01_Whole.f k n) (mk n 1) := by
  unfold serinetteref01_Whole.f
  exact Ev.bind (rmake_ev h (by unfold I64; omega)) (ev_const rfl)
theorem and_mask {x : Int} (h0 : 0 ≤ x) (h1 : x < 4294967296) : Go.bits .and .u64 x 4294967295 = x := by
  rw [u64_and x 4294967295 h0 (by omega) (by omega) (by omega)]
  have : x.toNat &&& Int.toNat 4294967295 = x.toNat % 2 ^ 32 := Nat.and_two_pow_sub_one_eq_mod x.toNat 32
  rw [this, Nat.mod_eq_of_lt (by omega)]
  omega
theorem mul64_is {a b : Int} (ha : 0 ≤ a) (ha' : a ≤ 1073741824) (hb : 0 ≤ b) (hb' : b ≤ 1073741824) : bits_Mul64.f a b = some (0, a * b) := by
  have hp := mul_bound (x := a) (y := b) (A := 1073741824) (B := 1073741824) (by omega) (by omega) (by omega) (by omega)
  have hp0 : 0 ≤ a * b := Int.mul_nonneg ha hb
  unfold bits_Mul64.f
  have e1 : a / 4294967296 = 0 := by omega
  have e2 : b / 4294967296 = 0 := by omega
  rw [e1, e2, and_mask ha (by omega), and_mask hb (by omega)]
  simp only [Int.zero_mul, Int.mul_zero]
  generalize a * b = p at *
  have z : IntKind.u64.wrap 0 = 0 := by rw [wu64]; rfl
  have e3 : IntKind.u64.wrap p = p := by rw [wu64]; omega
  have e4 : IntKind.u64.wrap (p / 4294967296) = p / 4294967296 := by rw [wu64]; omega
  have e5 : p / 4294967296 / 4294967296 = 0 := by omega
  have e6 : Go.bits .and .u64 (p / 4294967296) 4294967295 = p / 4294967296 := and_mask (by omega) (by omega)
  simp only [z, e3, Int.zero_add, Int.add_zero, e4, e5, e6]
theorem pow_succ_le {x m : Nat} (h : x ^ (m + 1) ≤ 1073741824) (hx : 1 ≤ x) : x ^ m ≤ 1073741824 :=
  Nat.le_trans (Nat.pow_le_pow_right hx (Nat.le_succ m)) h
theorem power_l0 (x n : Nat) (hx : x ≤ 1073741824) (hn : n ≤ 62) : ∀ (d i : Nat), i + d = n → x ^ i ≤ 1073741824 → (x ≤ 1 → i = 0) →
    Ev (fun k => ratio_power.l0 k (x : Int) ((x ^ i : Nat) : Int) (n : Int) (i : Int)) (if x ^ n ≤ 1073741824 then (((x ^ n : Nat) : Int), true) else (0, false)) := by
  intro d
  induction d with
  | zero =>
    intro i hi hp _
    refine Ev.step (f := fun k => if (i : Int) < (n : Int) then (if (x : Int) ≤ 1 then (some ((x : Int), true)) else ((bits_Mul64.f ((x ^ i : Nat) : Int) (x : Int)).bind fun bt145 => (if bt145.1 = 0 then (if bt145.2 > 1073741824 then (some (0, false)) else (ratio_power.l0 k (x : Int) bt145.2 (n : Int) (wrap64 (i + 1)))) else (some (0, false))))) else (some (((x ^ i : Nat) : Int), true))) (fun k => by simp only [ratio_power.l0]) ?_
    obtain rfl : i = n := by omega
    exact ev_neg (by omega) (ev_const (by rw [if_pos hp]))
  | succ d ih =>
    intro i hi hp h1
    refine Ev.step (f := fun k => if (i : Int) < (n : Int) then (if (x : Int) ≤ 1 then (some ((x : Int), true)) else ((bits_Mul64.f ((x ^ i : Nat) : Int) (x : Int)).bind fun bt145 => (if bt145.1 = 0 then (if bt145.2 > 1073741824 then (some (0, false)) else (ratio_power.l0 k (x : Int) bt145.2 (n : Int) (wrap64 (i + 1)))) else (some (0, false))))) else (some (((x ^ i : Nat) : Int), true))) (fun k => by simp only [ratio_power.l0]) ?_
    refine ev_pos (by omega) ?_
    by_cases c : x ≤ 1
    · refine ev_pos (by omega) (ev_const ?_)
      have e : x ^ n = x := by
        have : x = 0 ∨ x = 1 := by omega
        rcases this with rfl | rfl
        · exact Nat.zero_pow (by omega)
        · exact Nat.one_pow n
      rw [e, if_pos hx]
    · refine ev_neg (by omega) (ev_bind (mul64_is (by omega) (by omega) (by omega) (by omega)) (ev_pos rfl ?_))
      have e : ((x ^ i : Nat) : Int) * (x : Int) = ((x ^ (i + 1) : Nat) : Int) := by rw [Nat.pow_succ, Int.natCast_mul]
      simp only [e]
      by_cases c2 : x ^ (i + 1) ≤ 1073741824
      · refine ev_neg (by omega) ?_
        rw [w64 (by unfold I64; omega)]
        exact ih (i + 1) (by omega) c2 (fun h => absurd h c)
      · refine ev_pos (by omega) (ev_const ?_)
        have : x ^ (i + 1) ≤ x ^ n := Nat.pow_le_pow_right (by omega) (by omega)
        rw [if_neg (by omega)]
theorem power_ev (x n : Nat) (hx : x ≤ 1073741824) (hn : n ≤ 62) : Ev (fun k => ratio_power.f k (x : Int) (n : Int)) (if x ^ n ≤ 1073741824 then (((x ^ n : Nat) : Int), true) else (0, false)) := by
  have := power_l0 x n hx hn n 0 (by omega) (by simp) (fun _ => rfl)
  simpa [ratio_power.f] using this
/-- A power, of two parts in lowest terms. -/
def powP (a : Q) (m : Nat) : Q := if a.1.natAbs ^ m ≤ 1073741824 ∧ a.2.natAbs ^ m ≤ 1073741824 then (a.1 ^ m, a.2 ^ m) else (0, 0)
/-- 1 / a in lowest terms, a not 0. -/
def turnP (a : Q) : Q := if a.1 < 0 then (-a.2, -a.1) else (a.2, a.1)
def powQ (a : Q) (n : Int) : Q :=
  if okQ a = true then (if n < -62 then (0, 0) else if n > 62 then (0, 0) else if n < 0 then (if a.1 = 0 then (0, 0) else powP (turnP a) n.natAbs) else powP a n.natAbs) else (0, 0)
theorem neg_pow_even (x : Int) (m : Nat) (h : m % 2 = 0) : (-x) ^ m = x ^ m := by
  obtain ⟨q, rfl⟩ : ∃ q, m = 2 * q := ⟨m / 2, by omega⟩
  rw [Int.pow_mul, Int.pow_mul]
  congr 1
  rw [Int.pow_succ, Int.pow_succ, Int.pow_zero, Int.pow_succ, Int.pow_succ, Int.pow_zero]
  simp [Int.neg_mul_neg]
theorem neg_pow_odd (x : Int) (m : Nat) (h : m % 2 = 1) : (-x) ^ m = -(x ^ m) := by
  obtain ⟨q, rfl⟩ : ∃ q, m = q + 1 := ⟨m - 1, by omega⟩
  rw [Int.pow_succ, Int.pow_succ, neg_pow_even x q (by omega), Int.mul_neg]
theorem pow_j3 (s : Bool) (x y : Nat) (hx : x ≤ 1073741824) (hy : y ≤ 1073741824) : Ev (fun k => ratio_Pow.j3 k s (x : Int) (y : Int) false) (if s = true then -(x : Int) else (x : Int), (y : Int)) := by
  refine Ev.step (f := fun k => if false = true then (some (0, 0)) else (if s = true then (some (wrap64 (-(wrap64 (x : Int))), wrap64 (y : Int))) else (some (wrap64 (x : Int), wrap64 (y : Int))))) (fun k => by simp only [ratio_Pow.j3]) ?_
  refine ev_neg (by decide) ?_
  rw [w64 (n := (x : Int)) (by unfold I64; omega), w64 (n := (y : Int)) (by unfold I64; omega), w64 (n := -(x : Int)) (by unfold I64; omega)]
  cases s with
  | true => exact ev_pos rfl (ev_const rfl)
  | false => exact ev_neg (by decide) (ev_const rfl)
theorem pow_j3none (s : Bool) (x y : Int) : Ev (fun k => ratio_Pow.j3 k s x y true) (0, 0) := by
  refine Ev.step (f := fun k => if true = true then (some (0, 0)) else (if s = true then (some (wrap64 (-(wrap64 x)), wrap64 y)) else (some (wrap64 x, wrap64 y)))) (fun k => by simp only [ratio_Pow.j3]) ?_
  exact ev_pos rfl (ev_const rfl)
theorem pow_j2 (s : Bool) (x y n : Nat) (hx : x ≤ 1073741824) (hy : y ≤ 1073741824) (hn : n ≤ 62) :
    Ev (fun k => ratio_Pow.j2 k (n : Int) s (x : Int) (y : Int)) (if x ^ n ≤ 1073741824 ∧ y ^ n ≤ 1073741824 then (if s = true then -((x ^ n : Nat) : Int) else ((x ^ n : Nat) : Int), ((y ^ n : Nat) : Int)) else (0, 0)) := by
  refine Ev.step (f := fun k => (ratio_power.f k (x : Int) (n : Int)).bind fun bt152 => ((ratio_power.f k (y : Int) (n : Int)).bind fun bt154 => (if bt152.2 = true then (ratio_Pow.j3 k s bt152.1 bt154.1 (!bt154.2)) else (ratio_Pow.j3 k s bt152.1 bt154.1 true)))) (fun k => by simp only [ratio_Pow.j2]) ?_
  refine Ev.bind (power_ev x n hx hn) (Ev.bind (power_ev y n hy hn) ?_)
  by_cases c1 : x ^ n ≤ 1073741824
  · by_cases c2 : y ^ n ≤ 1073741824
    · simp only [if_pos c1, if_pos c2, if_pos (And.intro c1 c2)]
      exact ev_pos trivial (pow_j3 s _ _ c1 c2)
    · simp only [if_pos c1, if_neg c2, if_neg (show ¬ (x ^ n ≤ 1073741824 ∧ y ^ n ≤ 1073741824) from fun h => c2 h.2)]
      exact ev_pos trivial (pow_j3none _ _ _)
  · simp only [if_neg c1, if_neg (show ¬ (x ^ n ≤ 1073741824 ∧ y ^ n ≤ 1073741824) from fun h => c1 h.1)]
    exact ev_neg (by decide) (pow_j3none _ _ _)
theorem pow_j1 {a : Q} (h : okQ a = true) {n : Int} (h0 : -62 ≤ n) (h1 : n ≤ 62) (s : Bool) (hs : s = true ↔ (a.1 < 0 ∧ n % 2 = 1)) (hz : n < 0 → a.1 ≠ 0) :
    Ev (fun k => ratio_Pow.j1 k n s a.1 a.2) (if n < 0 then powP (turnP a) n.natAbs else powP a n.natAbs) := by
  have hb := okQ_bounds h
  refine Ev.step (f := fun k => (ratio_size.f a.1).bind fun t150 => ((ratio_size.f a.2).bind fun t151 => (if n < 0 then (ratio_Pow.j2 k (wrap64 (-n)) s t151 t150) else (ratio_Pow.j2 k n s t150 t151)))) (fun k => by simp only [ratio_Pow.j1]) ?_
  refine ev_bind (size_is (by unfold I64; omega)) (ev_bind (size_is (by unfold I64; omega)) ?_)
  obtain ⟨p, q⟩ := a
  simp only at *
  by_cases c : n < 0
  · rw [if_pos c]
    refine ev_pos c ?_
    rw [w64 (by unfold I64; omega), show -n = (n.natAbs : Int) by omega]
    have := pow_j2 s q.natAbs p.natAbs n.natAbs (by omega) (by omega) (by omega)
    have hp := hz c
    have e : (if q.natAbs ^ n.natAbs ≤ 1073741824 ∧ p.natAbs ^ n.natAbs ≤ 1073741824 then (if s = true then -((q.natAbs ^ n.natAbs : Nat) : Int) else ((q.natAbs ^ n.natAbs : Nat) : Int), ((p.natAbs ^ n.natAbs : Nat) : Int)) else (0, 0)) = powP (turnP (p, q)) n.natAbs := by
      unfold powP turnP
      simp only
      by_cases c2 : p < 0
      · simp only [if_pos c2, Int.natAbs_neg]
        split
        · congr 1
          · rw [Int.natCast_pow, show (q.natAbs : Int) = q by omega]
            by_cases c3 : n % 2 = 1
            · rw [if_pos (hs.2 ⟨c2, c3⟩), neg_pow_odd _ _ (by omega)]
            · rw [if_neg (fun h => c3 (hs.1 h).2), neg_pow_even _ _ (by omega)]
          · rw [Int.natCast_pow, show (p.natAbs : Int) = -p by omega]
        · rfl
      · simp only [if_neg c2]
        split
        · congr 1
          · rw [Int.natCast_pow, show (q.natAbs : Int) = q by omega, if_neg (fun h => c2 (hs.1 h).1)]
          · rw [Int.natCast_pow, show (p.natAbs : Int) = p by omega]
        · rfl
    rw [← e]
    exact this
  · rw [if_neg c]
    refine ev_neg c ?_
    have := pow_j2 s p.natAbs q.natAbs n.natAbs (by omega) (by omega) (by omega)
    have e : (if p.natAbs ^ n.natAbs ≤ 1073741824 ∧ q.natAbs ^ n.natAbs ≤ 1073741824 then (if s = true then -((p.natAbs ^ n.natAbs : Nat) : Int) else ((p.natAbs ^ n.natAbs : Nat) : Int), ((q.natAbs ^ n.natAbs : Nat) : Int)) else (0, 0)) = powP (p, q) n.natAbs := by
      unfold powP
      simp only
      split
      · congr 1
        · by_cases c2 : p < 0
          · rw [Int.natCast_pow, show (p.natAbs : Int) = -p by omega]
            by_cases c3 : n % 2 = 1
            · rw [if_pos (hs.2 ⟨c2, c3⟩), neg_pow_odd _ _ (by omega), Int.neg_neg]
            · rw [if_neg (fun h => c3 (hs.1 h).2), neg_pow_even _ _ (by omega)]
          · rw [Int.natCast_pow, show (p.natAbs : Int) = p by omega, if_neg (fun h => c2 (hs.1 h).1)]
        · rw [Int.natCast_pow, show (q.natAbs : Int) = q by omega]
      · rfl
    rw [← e]
    have en : (n.natAbs : Int) = n := by omega
    rw [en] at this
    exact this
theorem tmod2_ne (n : Int) : ((Int.tmod n 2) != 0) = decide (n % 2 = 1) := by
  have : Int.tmod n 2 = 0 ↔ n % 2 = 0 := by rw [← Int.dvd_iff_tmod_eq_zero, ← Int.dvd_iff_emod_eq_zero]
  rw [Bool.eq_iff_iff]
  simp only [bne_iff_ne, ne_eq, decide_eq_true_eq, this]
  omega
theorem pow_j0none (n : Int) (a : Q) : Ev (fun k => ratio_Pow.j0 k n true a.1 a.2) (0, 0) := by
  refine Ev.step (f := fun k => if true = true then (some (0, 0)) else (if a.1 < 0 then (ratio_Pow.j1 k n ((Int.tmod n 2) != 0) a.1 a.2) else (ratio_Pow.j1 k n false a.1 a.2))) (fun k => by simp only [ratio_Pow.j0]) ?_
  exact ev_pos rfl (ev_const rfl)
theorem pow_j0 {a : Q} (h : okQ a = true) {n : Int} (h0 : -62 ≤ n) (h1 : n ≤ 62) (hz : n < 0 → a.1 ≠ 0) : Ev (fun k => ratio_Pow.j0 k n false a.1 a.2) (if n < 0 then powP (turnP a) n.natAbs else powP a n.natAbs) := by
  refine Ev.step (f := fun k => if false = true then (some (0, 0)) else (if a.1 < 0 then (ratio_Pow.j1 k n ((Int.tmod n 2) != 0) a.1 a.2) else (ratio_Pow.j1 k n false a.1 a.2))) (fun k => by simp only [ratio_Pow.j0]) ?_
  refine ev_neg (by decide) ?_
  by_cases c : a.1 < 0
  · refine ev_pos c (pow_j1 h h0 h1 _ ?_ hz)
    rw [tmod2_ne]
    simp [c]
  · refine ev_neg c (pow_j1 h h0 h1 _ ?_ hz)
    simp [c]
theorem pow_ev {a : Q} (ha : I64Q a) {n : Int} (hn : I64 n) : Ev (fun k => ratio_Pow.f k a.1 a.2 n) (powQ a n) := by
  unfold ratio_Pow.f powQ
  refine Ev.bind (is_ev ha) ?_
  by_cases c : okQ a = true
  · rw [if_pos c]
    refine ev_pos c ?_
    by_cases c1 : n < -62
    · rw [if_pos c1]; exact ev_pos c1 (pow_j0none _ _)
    · rw [if_neg c1]
      refine ev_neg c1 ?_
      by_cases c2 : n > 62
      · rw [if_pos c2]; exact ev_pos c2 (pow_j0none _ _)
      · rw [if_neg c2]
        refine ev_neg c2 ?_
        by_cases c3 : n < 0
        · rw [if_pos c3]
          refine ev_pos c3 ?_
          by_cases c4 : a.1 = 0
          · rw [if_pos c4]
            rw [show (a.1 == 0) = true by simpa using c4]
            exact pow_j0none _ _
          · rw [if_neg c4]
            rw [show (a.1 == 0) = false by simpa using c4]
            have := pow_j0 c (n := n) (by omega) (by omega) (fun _ => c4)
            rw [if_pos c3] at this
            exact this
        · rw [if_neg c3]
          refine ev_neg c3 ?_
          have := pow_j0 c (n := n) (by omega) (by omega) (fun h => absurd h c3)
          rw [if_neg c3] at this
          exact this
  · rw [if_neg c]; exact ev_neg c (pow_j0none _ _)
theorem rmul_ev {a b : Q} (ha : I64Q a) (hb : I64Q b) : Ev (fun k => serinetteref01_Mul.f k a.1 a.2 b.1 b.2) (mulQ a b) := by
  unfold serinetteref01_Mul.f mulQ
  refine Ev.bind (rboth_ev ha hb) ?_
  by_cases c : okQ a = true
  · rw [if_pos c]
    by_cases c2 : okQ b = true
    · rw [if_pos c2]
      have m := okQ_mul c c2
      rw [w64 (n := a.1 * b.1) (by unfold I64; omega), w64 (n := a.2 * b.2) (by unfold I64; omega)]
      exact ev_pos (by rw [c, c2]; rfl) (Ev.bind (rmake_ev (by unfold I64; omega) (by unfold I64; omega)) (ev_const rfl))
    · rw [if_neg c2]; exact ev_neg (by rw [c]; simpa using c2) (ev_const rfl)
  · rw [if_neg c]; exact ev_neg (by simp [c]) (ev_const rfl)
theorem rdiv_ev {a b : Q} (ha : I64Q a) (hb : I64Q b) : Ev (fun k => serinetteref01_Div.f k a.1 a.2 b.1 b.2) (divQ a b) := by
  unfold serinetteref01_Div.f divQ
  refine Ev.bind (rboth_ev ha hb) ?_
  by_cases c : okQ a = true
  · rw [if_pos c]
    by_cases c2 : okQ b = true
    · rw [if_pos c2]
      have m := okQ_mul c c2
      rw [w64 (n := a.1 * b.2) (by unfold I64; omega), w64 (n := a.2 * b.1) (by unfold I64; omega)]
      exact ev_pos (by rw [c, c2]; rfl) (Ev.bind (rmake_ev (by unfold I64; omega) (by unfold I64; omega)) (ev_const rfl))
    · rw [if_neg c2]; exact ev_neg (by rw [c]; simpa using c2) (ev_const rfl)
  · rw [if_neg c]; exact ev_neg (by simp [c]) (ev_const rfl)
theorem powP_I64 (a : Q) (m : Nat) : I64Q (powP a m) := by
  unfold powP
  split
  · rename_i h
    have e1 : (a.1 ^ m).natAbs = a.1.natAbs ^ m := Int.natAbs_pow _ _
    have e2 : (a.2 ^ m).natAbs = a.2.natAbs ^ m := Int.natAbs_pow _ _
    unfold I64Q I64
    simp only
    omega
  · unfold I64Q I64; simp
/-- One factor more. -/
theorem powP_succ {a : Q} (h : okQ a = true) (m : Nat) : mulQ (powP a m) a = powP a (m + 1) := by
  have hb := okQ_bounds h
  have hc := okQ_coprime h
  by_cases c : a.1.natAbs ^ m ≤ 1073741824 ∧ a.2.natAbs ^ m ≤ 1073741824
  · have e1 : (a.1 ^ m).natAbs = a.1.natAbs ^ m := Int.natAbs_pow _ _
    have e2 : (a.2 ^ m).natAbs = a.2.natAbs ^ m := Int.natAbs_pow _ _
    have e3 : (a.1 ^ (m + 1)).natAbs = a.1.natAbs ^ (m + 1) := Int.natAbs_pow _ _
    have e4 : (a.2 ^ (m + 1)).natAbs = a.2.natAbs ^ (m + 1) := Int.natAbs_pow _ _
    have pos : ∀ j : Nat, 0 < a.2 ^ j := fun j => Int.pow_pos (by omega)
    have p1 := pos m
    have p2 := pos (m + 1)
    have cop : ∀ j : Nat, Nat.gcd (a.1.natAbs ^ j) (a.2.natAbs ^ j) = 1 := fun j => Nat.Coprime.pow j j hc
    have ok : okQ (powP a m) = true := by
      unfold powP okQ
      rw [if_pos c, isQ_iff]
      refine ⟨by omega, by omega, by omega, by omega, ?_⟩
      rw [e1, e2, cop]
    unfold mulQ
    rw [if_pos ok, if_pos h]
    have e : (powP a m).1 * a.1 = a.1 ^ (m + 1) ∧ (powP a m).2 * a.2 = a.2 ^ (m + 1) := by
      unfold powP
      rw [if_pos c]
      exact ⟨(Int.pow_succ _ _).symm, (Int.pow_succ _ _).symm⟩
    rw [e.1, e.2]
    by_cases c2 : a.1.natAbs ^ (m + 1) ≤ 1073741824 ∧ a.2.natAbs ^ (m + 1) ≤ 1073741824
    · rw [mk_self]
      · unfold powP; rw [if_pos c2]
      · rw [isQ_iff]
        refine ⟨by omega, by omega, by omega, by omega, ?_⟩
        rw [e3, e4, cop]
    · unfold mk powP
      rw [if_neg c2, if_neg (by omega), e3, e4, cop, Nat.div_one, Nat.div_one, if_pos (by omega)]
  · have c2 : ¬ (a.1.natAbs ^ (m + 1) ≤ 1073741824 ∧ a.2.natAbs ^ (m + 1) ≤ 1073741824) := by
      intro h2
      by_cases z : a.1.natAbs = 0
      · have z2 : a.2.natAbs = 1 := by
          rw [z, Nat.gcd_zero_left] at hc
          exact hc
        refine c ⟨?_, ?_⟩
        · rw [z]
          rcases Nat.eq_zero_or_pos m with hm | hm
          · subst hm; simp
          · rw [Nat.zero_pow hm]; omega
        · rw [z2, Nat.one_pow]; omega
      · exact c ⟨pow_succ_le h2.1 (by omega), pow_succ_le h2.2 (by omega)⟩
    have e : powP a m = (0, 0) := by unfold powP; rw [if_neg c]
    have e2 : powP a (m + 1) = (0, 0) := by unfold powP; rw [if_neg c2]
    rw [e, e2]
    rfl
theorem rpow_l0 {a : Q} (h : okQ a = true) (n : Nat) (hn : n ≤ 62) : ∀ (d i : Nat), i + d = n →
    Ev (fun k => serinetteref01_Pow.l0 k (n : Int) (i : Int) a.1 a.2 (powP a i).1 (powP a i).2) (powP a n) := by
  have hI : I64Q a := by
    have := okQ_bounds h
    unfold I64Q I64
    omega
  intro d
  induction d with
  | zero =>
    intro i hi
    refine Ev.step (f := fun k => if (i : Int) < (n : Int) then ((serinetteref01_Mul.f k (powP a i).1 (powP a i).2 a.1 a.2).bind fun bt195 => (serinetteref01_Pow.l0 k (n : Int) (wrap64 (i + 1)) a.1 a.2 bt195.1 bt195.2)) else (some ((powP a i).1, (powP a i).2))) (fun k => by simp only [serinetteref01_Pow.l0]) ?_
    obtain rfl : i = n := by omega
    exact ev_neg (by omega) (ev_const rfl)
  | succ d ih =>
    intro i hi
    refine Ev.step (f := fun k => if (i : Int) < (n : Int) then ((serinetteref01_Mul.f k (powP a i).1 (powP a i).2 a.1 a.2).bind fun bt195 => (serinetteref01_Pow.l0 k (n : Int) (wrap64 (i + 1)) a.1 a.2 bt195.1 bt195.2)) else (some ((powP a i).1, (powP a i).2))) (fun k => by simp only [serinetteref01_Pow.l0]) ?_
    refine ev_pos (by omega) (Ev.bind (rmul_ev (powP_I64 a i) hI) ?_)
    rw [powP_succ h, w64 (by unfold I64; omega)]
    exact ih (i + 1) (by omega)
theorem rpow_j2 {a : Q} (h : okQ a = true) (n : Nat) (hn : n ≤ 62) : Ev (fun k => serinetteref01_Pow.j2 k (n : Int) false a.1 a.2 1 1) (powP a n) := by
  refine Ev.step (f := fun k => if false = true then ((serinetteref01_None.f).bind fun bt193 => (some (bt193.1, bt193.2))) else (serinetteref01_Pow.l0 k (n : Int) 0 a.1 a.2 1 1)) (fun k => by simp only [serinetteref01_Pow.j2]) ?_
  have e : powP a 0 = (1, 1) := by unfold powP; simp
  have := rpow_l0 h n hn n 0 (by omega)
  rw [e] at this
  exact ev_neg (by decide) this
theorem rpow_j1 {a : Q} (ha : I64Q a) (n : Nat) (hn : n ≤ 62) : Ev (fun k => serinetteref01_Pow.j1 k (n : Int) a.1 a.2) (if okQ a = true then powP a n else if n = 0 then (1, 1) else (0, 0)) := by
  refine Ev.step (f := fun k => (serinetteref01_Whole.f k 1).bind fun bt189 => (if (n : Int) > 0 then ((serinetteref01_Is.f k a.1 a.2).bind fun t192 => (serinetteref01_Pow.j2 k (n : Int) (!t192) a.1 a.2 bt189.1 bt189.2)) else (serinetteref01_Pow.j2 k (n : Int) false a.1 a.2 bt189.1 bt189.2))) (fun k => by simp only [serinetteref01_Pow.j1]) ?_
  refine Ev.bind (rwhole_ev (by unfold I64; omega)) ?_
  rw [mk_whole (by omega) (by omega)]
  by_cases c : (n : Int) > 0
  · refine ev_pos c (Ev.bind (ris_ev ha) ?_)
    by_cases c2 : okQ a = true
    · rw [if_pos c2, c2]
      exact rpow_j2 c2 n hn
    · rw [if_neg c2, if_neg (by omega)]
      rw [Bool.not_eq_true] at c2
      rw [c2]
      refine Ev.step (f := fun k => if true = true then ((serinetteref01_None.f).bind fun bt193 => (some (bt193.1, bt193.2))) else (serinetteref01_Pow.l0 k (n : Int) 0 a.1 a.2 1 1)) (fun k => by simp only [serinetteref01_Pow.j2]; rfl) ?_
      exact ev_pos rfl (ev_const rfl)
  · refine ev_neg c ?_
    obtain rfl : n = 0 := by omega
    refine Ev.step (f := fun k => if false = true then ((serinetteref01_None.f).bind fun bt193 => (some (bt193.1, bt193.2))) else (serinetteref01_Pow.l0 k ((0 : Nat) : Int) 0 a.1 a.2 1 1)) (fun k => by simp only [serinetteref01_Pow.j2]) ?_
    refine ev_neg (by decide) ?_
    refine Ev.step (f := fun k => if 0 < ((0 : Nat) : Int) then ((serinetteref01_Mul.f k 1 1 a.1 a.2).bind fun bt195 => (serinetteref01_Pow.l0 k ((0 : Nat) : Int) (wrap64 (0 + 1)) a.1 a.2 bt195.1 bt195.2)) else (some (1, 1))) (fun k => by simp only [serinetteref01_Pow.l0]) ?_
    refine ev_neg (by simp) (ev_const ?_)
    split
    · unfold powP; simp
    · simp
theorem turnP_div {a : Q} (h : okQ a = true) (hz : a.1 ≠ 0) : divQ (1, 1) a = turnP a ∧ okQ (turnP a) = true := by
  have hb := okQ_bounds h
  have hc := okQ_coprime h
  have ok : okQ (turnP a) = true := by
    unfold turnP okQ
    rw [isQ_iff]
    by_cases c : a.1 < 0
    · simp only [if_pos c, Int.natAbs_neg]
      rw [Nat.gcd_comm]
      exact ⟨by omega, by omega, by omega, by omega, hc⟩
    · simp only [if_neg c]
      rw [Nat.gcd_comm]
      exact ⟨by omega, by omega, by omega, by omega, hc⟩
  refine ⟨?_, ok⟩
  unfold divQ
  rw [if_pos (okQ_whole (by omega) (by omega)), if_pos h]
  simp only [Int.one_mul]
  refine mk_of_val (a := (turnP a).1) (b := (turnP a).2) hz ok ?_
  unfold turnP
  by_cases c : a.1 < 0
  · simp only [if_pos c, Int.mul_neg, Int.neg_mul]
  · simp only [if_neg c]
theorem rpow_j0none (n : Int) (a : Q) : Ev (fun k => serinetteref01_Pow.j0 k n true a.1 a.2) (0, 0) := by
  refine Ev.step (f := fun k => if true = true then ((serinetteref01_None.f).bind fun bt183 => (some (bt183.1, bt183.2))) else (if n < 0 then ((serinetteref01_Whole.f k 1).bind fun bt185 => ((serinetteref01_Div.f k bt185.1 bt185.2 a.1 a.2).bind fun bt187 => (serinetteref01_Pow.j1 k (wrap64 (-n)) bt187.1 bt187.2))) else (serinetteref01_Pow.j1 k n a.1 a.2))) (fun k => by simp only [serinetteref01_Pow.j0]) ?_
  exact ev_pos rfl (ev_const rfl)
theorem rpow_ev {a : Q} (ha : I64Q a) {n : Int} (hn : I64 n) : Ev (fun k => serinetteref01_Pow.f k a.1 a.2 n) (powQ a n) := by
  unfold serinetteref01_Pow.f powQ
  refine Ev.bind (ris_ev ha) ?_
  by_cases c : okQ a = true
  · rw [if_pos c]
    refine ev_pos c ?_
    by_cases c1 : n < -62
    · rw [if_pos c1]; exact ev_pos c1 (rpow_j0none _ _)
    · rw [if_neg c1]
      refine ev_neg c1 ?_
      by_cases c2 : n > 62
      · rw [if_pos c2, decide_eq_true c2]; exact rpow_j0none _ _
      · rw [if_neg c2, decide_eq_false c2]
        refine Ev.step (f := fun k => if false = true then ((serinetteref01_None.f).bind fun bt183 => (some (bt183.1, bt183.2))) else (if n < 0 then ((serinetteref01_Whole.f k 1).bind fun bt185 => ((serinetteref01_Div.f k bt185.1 bt185.2 a.1 a.2).bind fun bt187 => (serinetteref01_Pow.j1 k (wrap64 (-n)) bt187.1 bt187.2))) else (serinetteref01_Pow.j1 k n a.1 a.2))) (fun k => by simp only [serinetteref01_Pow.j0]) ?_
        refine ev_neg (by decide) ?_
        by_cases c3 : n < 0
        · rw [if_pos c3]
          refine ev_pos c3 (Ev.bind (rwhole_ev (by unfold I64; omega)) ?_)
          rw [mk_whole (by omega) (by omega)]
          refine Ev.bind (rdiv_ev (a := (1, 1)) (by unfold I64Q I64; simp) ha) ?_
          rw [w64 (by unfold I64; omega), show -n = (n.natAbs : Int) by omega]
          have := rpow_j1 (a := divQ (1, 1) a) (divQ_I64 _ _) n.natAbs (by omega)
          by_cases c4 : a.1 = 0
          · rw [if_pos c4]
            have e : divQ (1, 1) a = (0, 0) := by
              unfold divQ
              rw [if_pos (okQ_whole (by omega) (by omega)), if_pos c]
              simp only [c4, Int.mul_zero, mk_zero_den]
            rw [e] at this ⊢
            rw [if_neg (by decide), if_neg (by omega)] at this
            exact this
          · rw [if_neg c4]
            obtain ⟨e, ok⟩ := turnP_div c c4
            rw [e] at this ⊢
            rw [if_pos ok] at this
            exact this
        · rw [if_neg c3]
          refine ev_neg c3 ?_
          have := rpow_j1 ha n.natAbs (by omega)
          rw [if_pos c, show (n.natAbs : Int) = n by omega] at this
          exact this
  · rw [if_neg c]; exact ev_neg c (rpow_j0none _ _)
/-- The law, as plain Lean. -/
theorem pure {n d : Int} (hn : I64 n) (hd : I64 d) {q : Q} (hq : I64Q q) {e : Int} (he : I64 e) : ∃ k, serinettelaw01_NumberMakes.f k n d q.1 q.2 e = some true := by
  refine Ev.rounds ?_
  unfold serinettelaw01_NumberMakes.f
  refine Ev.bind (make_ev hn hd) (Ev.bind (rmake_ev hn hd) (ev_pos (by simp) (Ev.bind (pow_ev hq he) (Ev.bind (rpow_ev hq he) (ev_pos (by simp) (Ev.bind awake_ev (ev_const rfl)))))))

end Go.Proofs.Ytgecbfemlpmpeaa.PNumberMakes
