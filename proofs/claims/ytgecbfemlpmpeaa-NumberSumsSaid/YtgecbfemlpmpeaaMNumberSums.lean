/- What the printed functions that NumberSums reaches come to, and the law itself, without Go and memory. -/
import Derived.Test.YtgecbfemlpmpeaaPNumberSumsx
import Derived.Test.YtgecbfemlpmpeaaSpec
namespace Go.Proofs.Ytgecbfemlpmpeaa.PNumberSums
open Go.RowKit Go.Proofs.YtgecbfemlpmpeaaW.PrintWords Go.Proofs.Ytgecbfemlpmpeaa.Plain

theorem w64 {n : Int} (h : I64 n) : wrap64 n = n := by unfold I64 at h; unfold wrap64; omega
theorem wu64 (n : Int) : IntKind.u64.wrap n = n % 18446744073709551616 := by simp [IntKind.wrap, IntKind.bits, IntKind.signed]
theorem ev_pos {α : Type} {c : Prop} [Decidable c] {f g : Nat → Option α} {r : α} (h : c) (k : Ev f r) : Ev (fun n => if c then f n else g n) r := by simpa only [if_pos h] using k
theorem ev_neg {α : Type} {c : Prop} [Decidable c] {f g : Nat → Option α} {r : α} (h : ¬ c) (k : Ev g r) : Ev (fun n => if c then f n else g n) r := by simpa only [if_neg h] using k
theorem ev_const {α : Type} {x : Option α} {r : α} (h : x = some r) : Ev (fun _ => x) r := ⟨0, fun _ _ => h⟩
theorem ev_bind {α β : Type} {x : Option α} {f : Nat → α → Option β} {a : α} {r : β} (h : x = some a) (k : Ev (fun n => f n a) r) : Ev (fun n => x.bind (f n)) r := by
  subst h
  exact k
theorem i64_of {n : Int} (h : (Lit.int .i64 n).wf = true) : I64 n := by
  simp [Lit.wf] at h
  exact h
theorem size_is {n : Int} (h : I64 n) : ratio_size.f n = some (n.natAbs : Int) := by
  unfold I64 at h
  unfold ratio_size.f
  simp only [wu64]
  split
  · congr 1; omega
  · congr 1; omega
theorem divisor_l0 : ∀ (b a : Nat), Ev (fun k => ratio_divisor.l0 k (a : Int) (b : Int)) ((Nat.gcd a b : Nat) : Int) := by
  intro b
  induction b using Nat.strongRecOn with
  | ind b ih =>
    intro a
    refine Ev.step (f := fun k => if (b : Int) = 0 then (some (a : Int)) else (ratio_divisor.l0 k (b : Int) (Int.tmod (a : Int) (b : Int)))) (fun k => by simp only [ratio_divisor.l0]) ?_
    by_cases hb : b = 0
    · subst hb
      refine ev_pos rfl (ev_const ?_)
      simp
    · refine ev_neg (by omega) ?_
      have h := ih (a % b) (Nat.mod_lt _ (by omega)) b
      rw [Int.ofNat_tmod] at h
      rw [Nat.gcd_comm, Nat.gcd_rec, Nat.gcd_comm]
      exact h
theorem divisor_ev (a b : Nat) : Ev (fun k => ratio_divisor.f k (a : Int) (b : Int)) ((Nat.gcd a b : Nat) : Int) := divisor_l0 b a
theorem is_ev {a : Q} (h : I64Q a) : Ev (fun k => ratio_Is.f k a.1 a.2) (okQ a) := by
  obtain ⟨n, d⟩ := a
  obtain ⟨h1, h2⟩ := h
  simp only at h1 h2
  show Ev (fun k => ratio_Is.f k n d) (isQ n d)
  unfold ratio_Is.f
  by_cases c1 : d ≥ 1
  · refine ev_pos c1 ?_
    by_cases c2 : d ≤ 1073741824
    · refine ev_pos c2 ?_
      by_cases c3 : n ≥ (-1073741824)
      · refine ev_pos c3 ?_
        by_cases c4 : n ≤ 1073741824
        · refine ev_pos c4 (ev_bind (size_is h1) (ev_bind (size_is h2) (Ev.bind (divisor_ev n.natAbs d.natAbs) (ev_const ?_))))
          congr 1
          rw [Bool.eq_iff_iff, isQ_iff]
          simp only [beq_iff_eq]
          omega
        · exact ev_neg c4 (ev_const (by rw [isQ_false.2 (by omega)]))
      · exact ev_neg c3 (ev_const (by rw [isQ_false.2 (by omega)]))
    · exact ev_neg c2 (ev_const (by rw [isQ_false.2 (by omega)]))
  · exact ev_neg c1 (ev_const (by rw [isQ_false.2 (by omega)]))
theorem make_ev {n d : Int} (hn : I64 n) (hd : I64 d) : Ev (fun k => ratio_Make.f k n d) (mk n d) := by
  have hn' := hn
  have hd' := hd
  unfold I64 at hn' hd'
  unfold ratio_Make.f
  by_cases c : d = 0
  · subst c
    refine ev_pos rfl (ev_const ?_)
    rw [mk_zero_den]
  · refine ev_neg c (ev_bind (size_is hn) (ev_bind (size_is hd) (Ev.bind (divisor_ev n.natAbs d.natAbs) ?_)))
    obtain ⟨l1, l2, l3, l4⟩ := lowest n.natAbs d.natAbs (by omega)
    have hg := gcd_pos_of (n := n) c
    have e1 : (Int.tdiv (n.natAbs : Int) ((Nat.gcd n.natAbs d.natAbs : Nat) : Int)) = ((n.natAbs / Nat.gcd n.natAbs d.natAbs : Nat) : Int) := by rw [← Int.ofNat_tdiv]
    have e2 : (Int.tdiv (d.natAbs : Int) ((Nat.gcd n.natAbs d.natAbs : Nat) : Int)) = ((d.natAbs / Nat.gcd n.natAbs d.natAbs : Nat) : Int) := by rw [← Int.ofNat_tdiv]
    have b1 := Nat.div_le_self n.natAbs (Nat.gcd n.natAbs d.natAbs)
    have b2 := Nat.div_le_self d.natAbs (Nat.gcd n.natAbs d.natAbs)
    simp only [e1, e2]
    refine ev_neg (by omega) ?_
    unfold mk
    rw [if_neg c]
    clear l1 l3 l4
    generalize n.natAbs / Nat.gcd n.natAbs d.natAbs = x at *
    generalize d.natAbs / Nat.gcd n.natAbs d.natAbs = y at *
    have w1 : IntKind.u64.wrap (x : Int) = (x : Int) := by rw [wu64]; omega
    have w2 : IntKind.u64.wrap (y : Int) = (y : Int) := by rw [wu64]; omega
    simp only [w1, w2]
    have j : ∀ b : Bool, b = true → Ev (fun k => ratio_Make.j0 k n d (x : Int) (y : Int) b) (0, 0) := by
      intro b hb
      subst hb
      refine Ev.step (f := fun k => (if true = true then (some ((0 : Int), (0 : Int))) else (if ((decide (n < 0)) != (decide (d < 0))) = true then (some (wrap64 (-(wrap64 ((x : Int)))), wrap64 ((y : Int)))) else (some (wrap64 ((x : Int)), wrap64 ((y : Int))))))) (fun k => by simp only [ratio_Make.j0]) (ev_pos rfl (ev_const rfl))
    by_cases c1 : 1073741824 < x
    · rw [if_pos (Or.inl c1)]
      exact ev_pos (by omega) (j _ rfl)
    · refine ev_neg (by omega) ?_
      by_cases c2 : 1073741824 < y
      · rw [if_pos (Or.inr c2)]
        exact j _ (by simp; omega)
      · rw [if_neg (by omega)]
        have e : decide ((y : Int) > 1073741824) = false := by simp; omega
        simp only [e]
        clear w1 w2 e1 e2 j
        have hx : wrap64 (x : Int) = (x : Int) := w64 (by unfold I64; omega)
        have hy : wrap64 (y : Int) = (y : Int) := w64 (by unfold I64; omega)
        have hz : wrap64 (-(x : Int)) = -(x : Int) := w64 (n := -(x : Int)) (by unfold I64; omega)
        refine Ev.step (f := fun k => (if false = true then (some ((0 : Int), (0 : Int))) else (if ((decide (n < 0)) != (decide (d < 0))) = true then (some (wrap64 (-(wrap64 ((x : Int)))), wrap64 ((y : Int)))) else (some (wrap64 ((x : Int)), wrap64 ((y : Int))))))) (fun k => by simp only [ratio_Make.j0]) ?_
        simp only [hx, hy, hz]
        refine ev_neg (by decide) ?_
        by_cases k : n < 0 ↔ d < 0
        · rw [if_pos k]
          refine ev_neg ?_ (ev_const rfl)
          by_cases k1 : n < 0
          · simp [k1, k.1 k1]
          · simp [k1, show ¬ d < 0 from fun h => k1 (k.2 h)]
        · rw [if_neg k]
          refine ev_pos ?_ (ev_const rfl)
          by_cases k1 : n < 0 <;> by_cases k2 : d < 0 <;> simp [k1, k2] at k ⊢
theorem rdivisor_l0 : ∀ (b a : Nat), Ev (fun k => serinetteref01_Divisor.l0 k (a : Int) (b : Int)) ((Nat.gcd a b : Nat) : Int) := by
  intro b
  induction b using Nat.strongRecOn with
  | ind b ih =>
    intro a
    refine Ev.step (f := fun k => if (b : Int) = 0 then (some (a : Int)) else (serinetteref01_Divisor.l0 k (b : Int) (Int.tmod (a : Int) (b : Int)))) (fun k => by simp only [serinetteref01_Divisor.l0]) ?_
    by_cases hb : b = 0
    · subst hb
      refine ev_pos rfl (ev_const ?_)
      simp
    · refine ev_neg (by omega) ?_
      have h := ih (a % b) (Nat.mod_lt _ (by omega)) b
      rw [Int.ofNat_tmod] at h
      rw [Nat.gcd_comm, Nat.gcd_rec, Nat.gcd_comm]
      exact h
theorem rdivisor_ev {a b : Int} (ha : I64 a) (hb : I64 b) (ha' : a ≠ -9223372036854775808) (hb' : b ≠ -9223372036854775808) : Ev (fun k => serinetteref01_Divisor.f k a b) ((Nat.gcd a.natAbs b.natAbs : Nat) : Int) := by
  unfold I64 at ha hb
  have j1 : ∀ (x y : Int), x = (a.natAbs : Int) → y = (b.natAbs : Int) → Ev (fun k => serinetteref01_Divisor.j1 k x y) ((Nat.gcd a.natAbs b.natAbs : Nat) : Int) := by
    intro x y hx hy
    subst hx hy
    exact Ev.step (f := fun k => serinetteref01_Divisor.l0 k (a.natAbs : Int) (b.natAbs : Int)) (fun k => by simp only [serinetteref01_Divisor.j1]) (rdivisor_l0 _ _)
  have j0 : ∀ (x : Int), x = (a.natAbs : Int) → Ev (fun k => serinetteref01_Divisor.j0 k x b) ((Nat.gcd a.natAbs b.natAbs : Nat) : Int) := by
    intro x hx
    refine Ev.step (f := fun k => if b < 0 then (serinetteref01_Divisor.j1 k x (wrap64 (-b))) else (serinetteref01_Divisor.j1 k x b)) (fun k => by simp only [serinetteref01_Divisor.j0]) ?_
    by_cases c : b < 0
    · refine ev_pos c (j1 _ _ hx ?_)
      rw [w64 (by unfold I64; omega)]; omega
    · exact ev_neg c (j1 _ _ hx (by omega))
  unfold serinetteref01_Divisor.f
  by_cases c : a < 0
  · refine ev_pos c (j0 _ ?_)
    rw [w64 (by unfold I64; omega)]; omega
  · exact ev_neg c (j0 _ (by omega))
theorem ris_ev {a : Q} (h : I64Q a) : Ev (fun k => serinetteref01_Is.f k a.1 a.2) (okQ a) := by
  obtain ⟨n, d⟩ := a
  obtain ⟨h1, h2⟩ := h
  simp only at h1 h2
  show Ev (fun k => serinetteref01_Is.f k n d) (isQ n d)
  unfold serinetteref01_Is.f
  by_cases c1 : d ≥ 1
  · refine ev_pos c1 ?_
    by_cases c2 : d ≤ 1073741824
    · refine ev_pos c2 ?_
      by_cases c3 : n ≥ (-1073741824)
      · refine ev_pos c3 ?_
        by_cases c4 : n ≤ 1073741824
        · refine ev_pos c4 (Ev.bind (rdivisor_ev h1 h2 (by omega) (by omega)) (ev_const ?_))
          congr 1
          rw [Bool.eq_iff_iff, isQ_iff]
          simp only [beq_iff_eq]
          omega
        · exact ev_neg c4 (ev_const (by rw [isQ_false.2 (by omega)]))
      · exact ev_neg c3 (ev_const (by rw [isQ_false.2 (by omega)]))
    · exact ev_neg c2 (ev_const (by rw [isQ_false.2 (by omega)]))
  · exact ev_neg c1 (ev_const (by rw [isQ_false.2 (by omega)]))
theorem least_is {n : Int} (h : I64 n) : serinetteref01_least.f n = some (decide (n = -9223372036854775808)) := by
  unfold I64 at h
  unfold serinetteref01_least.f
  by_cases c : n = wrap64 (-n)
  · rw [if_pos c]
    unfold wrap64 at c
    congr 1
    rw [Bool.eq_iff_iff]
    simp
    omega
  · rw [if_neg c]
    unfold wrap64 at c
    congr 1
    symm
    simp
    omega
theorem rmake_j2 {n d : Int} (hn : I64 n) (hd : I64 d) (hn' : n ≠ -9223372036854775808) (c : 0 < d) : Ev (fun k => serinetteref01_Make.j2 k n d) (mk n d) := by
  refine Ev.step (f := fun k => (serinetteref01_Divisor.f k n d).bind fun t140 => (if t140 = 0 then (none) else ((serinetteref01_Is.f k (wrap64 (Int.tdiv n t140)) (wrap64 (Int.tdiv d t140))).bind fun t142 => (if t142 = true then (some (wrap64 (Int.tdiv n t140), wrap64 (Int.tdiv d t140))) else ((serinetteref01_None.f).bind fun bt143 => (some (bt143.1, bt143.2))))))) (fun k => by simp only [serinetteref01_Make.j2]) ?_
  refine Ev.bind (rdivisor_ev hn hd hn' (by omega)) ?_
  have hg := gcd_pos_of (n := n) (d := d) (by omega)
  obtain ⟨l1, l2, l3, l4⟩ := lowest n.natAbs d.natAbs (by omega)
  refine ev_neg (by omega) ?_
  unfold I64 at hn hd
  have b1 := Nat.div_le_self n.natAbs (Nat.gcd n.natAbs d.natAbs)
  have b2 := Nat.div_le_self d.natAbs (Nat.gcd n.natAbs d.natAbs)
  have e2 : Int.tdiv d ((Nat.gcd n.natAbs d.natAbs : Nat) : Int) = ((d.natAbs / Nat.gcd n.natAbs d.natAbs : Nat) : Int) := by
    rw [Int.ofNat_tdiv, show (d.natAbs : Int) = d by omega]
  have e1 : Int.tdiv n ((Nat.gcd n.natAbs d.natAbs : Nat) : Int) = if n < 0 then -((n.natAbs / Nat.gcd n.natAbs d.natAbs : Nat) : Int) else ((n.natAbs / Nat.gcd n.natAbs d.natAbs : Nat) : Int) := by
    split
    · rename_i hneg
      rw [Int.ofNat_tdiv, ← Int.neg_tdiv, show -(n.natAbs : Int) = n by omega]
    · rw [Int.ofNat_tdiv, show (n.natAbs : Int) = n by omega]
  have hv : ∀ v : Int, (v = ((n.natAbs / Nat.gcd n.natAbs d.natAbs : Nat) : Int) ∨ v = -((n.natAbs / Nat.gcd n.natAbs d.natAbs : Nat) : Int)) → I64 v ∧ v.natAbs = n.natAbs / Nat.gcd n.natAbs d.natAbs := by
    intro v h
    unfold I64
    clear l1 l2 l3 l4
    generalize n.natAbs / Nat.gcd n.natAbs d.natAbs = x at *
    omega
  have hv2 := hv (Int.tdiv n ((Nat.gcd n.natAbs d.natAbs : Nat) : Int)) (by rw [e1]; split <;> simp)
  have w1 : wrap64 (Int.tdiv n ((Nat.gcd n.natAbs d.natAbs : Nat) : Int)) = Int.tdiv n ((Nat.gcd n.natAbs d.natAbs : Nat) : Int) := w64 hv2.1
  have w2 : wrap64 (Int.tdiv d ((Nat.gcd n.natAbs d.natAbs : Nat) : Int)) = Int.tdiv d ((Nat.gcd n.natAbs d.natAbs : Nat) : Int) := w64 (by rw [e2]; unfold I64; omega)
  simp only [w1, w2]
  have hI : I64Q (Int.tdiv n ((Nat.gcd n.natAbs d.natAbs : Nat) : Int), Int.tdiv d ((Nat.gcd n.natAbs d.natAbs : Nat) : Int)) := by
    exact ⟨hv2.1, by simp only; rw [e2]; unfold I64; omega⟩
  refine Ev.bind (ris_ev hI) ?_
  have hval : okQ (Int.tdiv n ((Nat.gcd n.natAbs d.natAbs : Nat) : Int), Int.tdiv d ((Nat.gcd n.natAbs d.natAbs : Nat) : Int)) = decide (¬ (1073741824 < n.natAbs / Nat.gcd n.natAbs d.natAbs ∨ 1073741824 < d.natAbs / Nat.gcd n.natAbs d.natAbs)) := by
    unfold okQ
    simp only
    have q := hv2.2
    rw [Bool.eq_iff_iff, isQ_iff, hv2.2, e2, Int.natAbs_natCast, l1]
    simp only [decide_eq_true_eq, and_true]
    clear hI w1 w2 hv hv2 e1 e2 l1 l3 l4 b1
    generalize Int.tdiv n ((Nat.gcd n.natAbs d.natAbs : Nat) : Int) = v at *
    generalize n.natAbs / Nat.gcd n.natAbs d.natAbs = x at *
    generalize d.natAbs / Nat.gcd n.natAbs d.natAbs = y at *
    omega
  by_cases cc : 1073741824 < n.natAbs / Nat.gcd n.natAbs d.natAbs ∨ 1073741824 < d.natAbs / Nat.gcd n.natAbs d.natAbs
  · refine ev_neg (by rw [hval]; simp; omega) (ev_const ?_)
    unfold mk
    rw [if_neg (by omega), if_pos cc]
    rfl
  · refine ev_pos (by rw [hval]; simp; omega) (ev_const ?_)
    unfold mk
    rw [if_neg (by omega), if_neg cc, e1, e2]
    congr 2
    by_cases k : n < 0
    · rw [if_pos k, if_neg (by omega)]
    · rw [if_neg k, if_pos (by omega)]
theorem rmake_j1 {n d : Int} (hn : I64 n) (hd : I64 d) (hn' : n ≠ -9223372036854775808) (hd' : d ≠ -9223372036854775808) (c : d ≠ 0) : Ev (fun k => serinetteref01_Make.j1 k n d false) (mk n d) := by
  refine Ev.step (f := fun k => if false = true then (if (Int.tmod n 2) = 0 then (if (Int.tmod d 2) = 0 then (serinetteref01_Make.l0 k (wrap64 (Int.tdiv n 2)) (wrap64 (Int.tdiv d 2))) else ((serinetteref01_None.f).bind fun bt136 => (some (bt136.1, bt136.2)))) else ((serinetteref01_None.f).bind fun bt138 => (some (bt138.1, bt138.2)))) else (if d < 0 then (serinetteref01_Make.j2 k (wrap64 (-n)) (wrap64 (-d))) else (serinetteref01_Make.j2 k n d))) (fun k => by simp only [serinetteref01_Make.j1]) ?_
  refine ev_neg (by decide) ?_
  unfold I64 at hn hd
  by_cases k : d < 0
  · refine ev_pos k ?_
    rw [w64 (n := -n) (by unfold I64; omega), w64 (n := -d) (by unfold I64; omega)]
    rw [mk_cross (n := n) (d := d) (n' := -n) (d' := -d) c (by omega) (by rw [Int.mul_neg, Int.neg_mul])]
    exact rmake_j2 (by unfold I64; omega) (by unfold I64; omega) (by omega) (by omega)
  · exact ev_neg k (rmake_j2 hn hd hn' (by omega))
theorem rmake_l0 {n d : Int} (hn : I64 n) (hd : I64 d) (hn' : n ≠ -9223372036854775808) (hd' : d ≠ -9223372036854775808) (c : d ≠ 0) : Ev (fun k => serinetteref01_Make.l0 k n d) (mk n d) := by
  refine Ev.step (f := fun k => (serinetteref01_least.f n).bind fun t134 => (if t134 = true then (serinetteref01_Make.j1 k n d true) else ((serinetteref01_least.f d).bind fun t135 => (serinetteref01_Make.j1 k n d t135)))) (fun k => by simp only [serinetteref01_Make.l0]) ?_
  refine ev_bind (least_is hn) (ev_neg (by simpa using hn') (ev_bind (least_is hd) ?_))
  simp only [decide_eq_false hd']
  exact rmake_j1 hn hd hn' hd' c
theorem gcd_pow2 (d : Nat) (h : d % 2 = 1) : Nat.gcd 9223372036854775808 d = 1 := by
  have h2 : Nat.Coprime 2 d := by
    rw [Nat.coprime_iff_gcd_eq_one, Nat.gcd_rec, h]; decide
  have := Nat.Coprime.pow_left 63 h2
  exact this
theorem rmake_ev {n d : Int} (hn : I64 n) (hd : I64 d) : Ev (fun k => serinetteref01_Make.f k n d) (mk n d) := by
  unfold serinetteref01_Make.f
  by_cases c : d = 0
  · subst c
    refine ev_pos rfl (ev_const ?_)
    rw [mk_zero_den]
    rfl
  · refine ev_neg c ?_
    by_cases k : n ≠ -9223372036854775808 ∧ d ≠ -9223372036854775808
    · exact rmake_l0 hn hd k.1 k.2 c
    · have hn' := hn
      have hd' := hd
      unfold I64 at hn' hd'
      have j1 : Ev (fun k => serinetteref01_Make.j1 k n d true) (mk n d) := by
        refine Ev.step (f := fun k => if true = true then (if (Int.tmod n 2) = 0 then (if (Int.tmod d 2) = 0 then (serinetteref01_Make.l0 k (wrap64 (Int.tdiv n 2)) (wrap64 (Int.tdiv d 2))) else ((serinetteref01_None.f).bind fun bt136 => (some (bt136.1, bt136.2)))) else ((serinetteref01_None.f).bind fun bt138 => (some (bt138.1, bt138.2)))) else (if d < 0 then (serinetteref01_Make.j2 k (wrap64 (-n)) (wrap64 (-d))) else (serinetteref01_Make.j2 k n d))) (fun k => by simp only [serinetteref01_Make.j1]) ?_
        refine ev_pos rfl ?_
        have tm : ∀ m : Int, Int.tmod m 2 = 0 ↔ m % 2 = 0 := fun m => by
          rw [← Int.dvd_iff_tmod_eq_zero, ← Int.dvd_iff_emod_eq_zero]
        by_cases c1 : Int.tmod n 2 = 0
        · refine ev_pos c1 ?_
          rw [tm] at c1
          by_cases c2 : Int.tmod d 2 = 0
          · refine ev_pos c2 ?_
            rw [tm] at c2
            have t1 : Int.tdiv n 2 = n / 2 := Int.tdiv_eq_ediv_of_dvd (Int.dvd_of_emod_eq_zero c1)
            have t2 : Int.tdiv d 2 = d / 2 := Int.tdiv_eq_ediv_of_dvd (Int.dvd_of_emod_eq_zero c2)
            rw [t1, t2, w64 (n := n / 2) (by unfold I64; omega), w64 (n := d / 2) (by unfold I64; omega)]
            rw [mk_cross (n := n) (d := d) (n' := n / 2) (d' := d / 2) c (by omega) (by
              obtain ⟨x, hx⟩ := Int.dvd_of_emod_eq_zero c1
              obtain ⟨y, hy⟩ := Int.dvd_of_emod_eq_zero c2
              rw [show n / 2 = x by omega, show d / 2 = y by omega, hx, hy, Int.mul_comm 2 x, Int.mul_assoc])]
            exact rmake_l0 (by unfold I64; omega) (by unfold I64; omega) (by omega) (by omega) (by omega)
          · refine ev_neg c2 (ev_const ?_)
            rw [tm] at c2
            have hN : n = -9223372036854775808 := by omega
            subst hN
            unfold mk
            rw [if_neg c, if_pos (Or.inl (by
              rw [show Int.natAbs (-9223372036854775808) = 9223372036854775808 from rfl, gcd_pow2 _ (by omega)]; omega))]
            rfl
        · refine ev_neg c1 (ev_const ?_)
          rw [tm] at c1
          have hD : d = -9223372036854775808 := by omega
          subst hD
          unfold mk
          rw [if_neg c, if_pos (Or.inr (by
            rw [show Int.natAbs (-9223372036854775808) = 9223372036854775808 from rfl, Nat.gcd_comm, gcd_pow2 _ (by omega)]; omega))]
          rfl
      refine Ev.step (f := fun k => (serinetteref01_least.f n).bind fun t134 => (if t134 = true then (serinetteref01_Make.j1 k n d true) else ((serinetteref01_least.f d).bind fun t135 => (serinetteref01_Make.j1 k n d t135)))) (fun k => by simp only [serinetteref01_Make.l0]) ?_
      refine ev_bind (least_is hn) ?_
      by_cases e : n = -9223372036854775808
      · exact ev_pos (by simpa using e) j1
      · refine ev_neg (by simpa using e) (ev_bind (least_is hd) ?_)
        have e2 : d = -9223372036854775808 := by
          by_cases e2 : d = -9223372036854775808
          · exact e2
          · exact absurd ⟨e, e2⟩ k
        simp only [decide_eq_true e2]
        exact j1
theorem rclean_ev {a : Q} (h : I64Q a) : Ev (fun k => serinetteref01_Clean.f k a.1 a.2) (cleanQ a) := by
  unfold serinetteref01_Clean.f cleanQ
  refine Ev.bind (ris_ev h) ?_
  by_cases c : okQ a = true
  · exact ev_pos c (ev_const (by rw [if_pos c]))
  · exact ev_neg c (ev_const (by rw [if_neg c]; rfl))
theorem rboth_ev {a b : Q} (ha : I64Q a) (hb : I64Q b) : Ev (fun k => serinetteref01_both.f k a.1 a.2 b.1 b.2) (okQ a && okQ b) := by
  unfold serinetteref01_both.f
  refine Ev.bind (ris_ev ha) ?_
  by_cases c : okQ a = true
  · refine ev_pos c (Ev.bind (ris_ev hb) (ev_const ?_))
    rw [c]; rfl
  · refine ev_neg c (ev_const ?_)
    rw [Bool.not_eq_true] at c
    rw [c]; rfl
theorem mul_bound {x y A B : Int} (h1 : -A ≤ x) (h2 : x ≤ A) (h3 : -B ≤ y) (h4 : y ≤ B) : -(A * B) ≤ x * y ∧ x * y ≤ A * B := by
  have hx : x.natAbs ≤ A.toNat := by omega
  have hy : y.natAbs ≤ B.toNat := by omega
  have h := Nat.mul_le_mul hx hy
  rw [← Int.natAbs_mul] at h
  have e : ((A.toNat * B.toNat : Nat) : Int) = A * B := by
    rw [Int.natCast_mul, Int.toNat_of_nonneg (by omega), Int.toNat_of_nonneg (by omega)]
  omega
theorem okQ_mul {a b : Q} (ha : okQ a = true) (hb : okQ b = true) :
    (-1152921504606846976 ≤ a.1 * b.2 ∧ a.1 * b.2 ≤ 1152921504606846976) ∧ (-1152921504606846976 ≤ b.1 * a.2 ∧ b.1 * a.2 ≤ 1152921504606846976) ∧ (-1152921504606846976 ≤ a.2 * b.2 ∧ a.2 * b.2 ≤ 1152921504606846976) ∧ (-1152921504606846976 ≤ a.1 * b.1 ∧ a.1 * b.1 ≤ 1152921504606846976) ∧ (-1152921504606846976 ≤ a.2 * b.1 ∧ a.2 * b.1 ≤ 1152921504606846976) := by
  have h1 := okQ_bounds ha
  have h2 := okQ_bounds hb
  exact ⟨mul_bound (A := 1073741824) (B := 1073741824) (by omega) (by omega) (by omega) (by omega), mul_bound (A := 1073741824) (B := 1073741824) (by omega) (by omega) (by omega) (by omega), mul_bound (A := 1073741824) (B := 1073741824) (by omega) (by omega) (by omega) (by omega), mul_bound (A := 1073741824) (B := 1073741824) (by omega) (by omega) (by omega) (by omega), mul_bound (A := 1073741824) (B := 1073741824) (by omega) (by omega) (by omega) (by omega)⟩
theorem add_ev {a b : Q} (ha : I64Q a) (hb : I64Q b) : Ev (fun k => ratio_Add.f k a.1 a.2 b.1 b.2) (addQ a b) := by
  unfold ratio_Add.f addQ
  refine Ev.bind (is_ev ha) ?_
  by_cases c : okQ a = true
  · rw [if_pos c]
    refine ev_pos c (Ev.bind (is_ev hb) ?_)
    by_cases c2 : okQ b = true
    · rw [if_pos c2]
      have m := okQ_mul c c2
      rw [w64 (n := a.1 * b.2) (by unfold I64; omega), w64 (n := b.1 * a.2) (by unfold I64; omega), w64 (n := a.1 * b.2 + b.1 * a.2) (by unfold I64; omega), w64 (n := a.2 * b.2) (by unfold I64; omega)]
      exact ev_pos c2 (Ev.bind (make_ev (by unfold I64; omega) (by unfold I64; omega)) (ev_const rfl))
    · rw [if_neg c2]; exact ev_neg c2 (ev_const rfl)
  · rw [if_neg c]; exact ev_neg c (ev_const rfl)
theorem radd_ev {a b : Q} (ha : I64Q a) (hb : I64Q b) : Ev (fun k => serinetteref01_Add.f k a.1 a.2 b.1 b.2) (addQ a b) := by
  unfold serinetteref01_Add.f addQ
  refine Ev.bind (rboth_ev ha hb) ?_
  by_cases c : okQ a = true
  · rw [if_pos c]
    by_cases c2 : okQ b = true
    · rw [if_pos c2]
      have m := okQ_mul c c2
      rw [w64 (n := a.1 * b.2) (by unfold I64; omega), w64 (n := b.1 * a.2) (by unfold I64; omega), w64 (n := a.1 * b.2 + b.1 * a.2) (by unfold I64; omega), w64 (n := a.2 * b.2) (by unfold I64; omega)]
      exact ev_pos (by rw [c, c2]; rfl) (Ev.bind (rmake_ev (by unfold I64; omega) (by unfold I64; omega)) (ev_const rfl))
    · rw [if_neg c2]; exact ev_neg (by rw [c]; simpa using c2) (ev_const rfl)
  · rw [if_neg c]; exact ev_neg (by simp [c]) (ev_const rfl)
theorem mul_ev {a b : Q} (ha : I64Q a) (hb : I64Q b) : Ev (fun k => ratio_Mul.f k a.1 a.2 b.1 b.2) (mulQ a b) := by
  unfold ratio_Mul.f mulQ
  refine Ev.bind (is_ev ha) ?_
  by_cases c : okQ a = true
  · rw [if_pos c]
    refine ev_pos c (Ev.bind (is_ev hb) ?_)
    by_cases c2 : okQ b = true
    · rw [if_pos c2]
      have m := okQ_mul c c2
      rw [w64 (n := a.1 * b.1) (by unfold I64; omega), w64 (n := a.2 * b.2) (by unfold I64; omega)]
      exact ev_pos c2 (Ev.bind (make_ev (by unfold I64; omega) (by unfold I64; omega)) (ev_const rfl))
    · rw [if_neg c2]; exact ev_neg c2 (ev_const rfl)
  · rw [if_neg c]; exact ev_neg c (ev_const rfl)
theorem awake_ev : Ev (fun k => serinettelaw01_awake.f k) true := by
  unfold serinettelaw01_awake.f
  refine Ev.bind (add_ev (a := (1, 3)) (b := (1, 6)) (by unfold I64Q I64; simp) (by unfold I64Q I64; simp)) ?_
  have e : addQ (1, 3) (1, 6) = (1, 2) := by decide +kernel
  rw [e]
  refine ev_pos rfl (Ev.bind (mul_ev (a := (1073741824, 1)) (b := (2, 1)) (by unfold I64Q I64; simp) (by unfold I64Q I64; simp)) (ev_const ?_))
  have e2 : mulQ (1073741824, 1) (2, 1) = (0, 0) := by decide +kernel
  rw [e2]
  rfl
theorem rwhole_ev {n : Int} (h : I64 n) : Ev (fun k => serinetteref01_Whole.f k n) (mk n 1) := by
  unfold serinetteref01_Whole.f
  exact Ev.bind (rmake_ev h (by unfold I64; omega)) (ev_const rfl)
theorem sum_l0 (l : List S24) (hl : l.length * 16 ≤ 140737488351232) (hw : ∀ x ∈ l, I64 x.f0 ∧ I64 x.f1) : ∀ (d : Nat) (i : Nat) (a : Q), i + d = l.length → I64Q a →
    Ev (fun k => ratio_Sum.l0 k l (l.length : Int) (i : Int) a.1 a.2) ((l.drop i).foldl (fun a x => addQ a (x.f0, x.f1)) a) := by
  intro d
  induction d with
  | zero =>
    intro i a hi ha
    refine Ev.step (f := fun k => if (i : Int) < (l.length : Int) then (if 0 ≤ (i : Int) then (if (i : Int) < (l.length : Int) then ((ratio_Add.f k a.1 a.2 ((rd_T24 l i).f0) ((rd_T24 l i).f1)).bind fun bt121 => (ratio_Sum.l0 k l (l.length : Int) (wrap64 (i + 1)) bt121.1 bt121.2)) else (none)) else (none)) else (some (a.1, a.2))) (fun k => by simp only [ratio_Sum.l0]) ?_
    refine ev_neg (by omega) (ev_const ?_)
    rw [List.drop_eq_nil_of_le (by omega)]
    rfl
  | succ d ih =>
    intro i a hi ha
    refine Ev.step (f := fun k => if (i : Int) < (l.length : Int) then (if 0 ≤ (i : Int) then (if (i : Int) < (l.length : Int) then ((ratio_Add.f k a.1 a.2 ((rd_T24 l i).f0) ((rd_T24 l i).f1)).bind fun bt121 => (ratio_Sum.l0 k l (l.length : Int) (wrap64 (i + 1)) bt121.1 bt121.2)) else (none)) else (none)) else (some (a.1, a.2))) (fun k => by simp only [ratio_Sum.l0]) ?_
    have hlt : i < l.length := by omega
    have hr : rd_T24 l (i : Int) = l[i] := by simp [rd_T24, List.getD_eq_getElem?_getD, List.getElem?_eq_getElem hlt]
    have hx := hw l[i] (List.getElem_mem hlt)
    rw [hr]
    refine ev_pos (by omega) (ev_pos (by omega) (ev_pos (by omega) (Ev.bind (add_ev (b := (l[i].f0, l[i].f1)) ha hx) ?_)))
    rw [w64 (by unfold I64; omega), List.drop_eq_getElem_cons hlt]
    exact ih (i + 1) (addQ a (l[i].f0, l[i].f1)) (by omega) (addQ_I64 _ _)
theorem rsum_l0 (l : List S24) (hl : l.length * 16 ≤ 140737488351232) (hw : ∀ x ∈ l, I64 x.f0 ∧ I64 x.f1) : ∀ (d : Nat) (i : Nat) (a : Q), i + d = l.length → I64Q a →
    Ev (fun k => serinetteref01_Sum.l0 k l (i : Int) a.1 a.2) ((l.drop i).foldl (fun a x => addQ a (x.f0, x.f1)) a) := by
  intro d
  induction d with
  | zero =>
    intro i a hi ha
    refine Ev.step (f := fun k => if (i : Int) < (l.length : Int) then (if 0 ≤ (i : Int) then ((serinetteref01_Add.f k a.1 a.2 ((rd_T24 l i).f0) ((rd_T24 l i).f1)).bind fun bt168 => (serinetteref01_Sum.l0 k l (wrap64 (i + 1)) bt168.1 bt168.2)) else (none)) else (some (a.1, a.2))) (fun k => by simp only [serinetteref01_Sum.l0]) ?_
    refine ev_neg (by omega) (ev_const ?_)
    rw [List.drop_eq_nil_of_le (by omega)]
    rfl
  | succ d ih =>
    intro i a hi ha
    refine Ev.step (f := fun k => if (i : Int) < (l.length : Int) then (if 0 ≤ (i : Int) then ((serinetteref01_Add.f k a.1 a.2 ((rd_T24 l i).f0) ((rd_T24 l i).f1)).bind fun bt168 => (serinetteref01_Sum.l0 k l (wrap64 (i + 1)) bt168.1 bt168.2)) else (none)) else (some (a.1, a.2))) (fun k => by simp only [serinetteref01_Sum.l0]) ?_
    have hlt : i < l.length := by omega
    have hr : rd_T24 l (i : Int) = l[i] := by simp [rd_T24, List.getD_eq_getElem?_getD, List.getElem?_eq_getElem hlt]
    have hx := hw l[i] (List.getElem_mem hlt)
    rw [hr]
    refine ev_pos (by omega) (ev_pos (by omega) (Ev.bind (radd_ev (b := (l[i].f0, l[i].f1)) ha hx) ?_))
    rw [w64 (by unfold I64; omega), List.drop_eq_getElem_cons hlt]
    exact ih (i + 1) (addQ a (l[i].f0, l[i].f1)) (by omega) (addQ_I64 _ _)
/-- The law, as plain Lean. -/
theorem pure (l : List S24) (hl : l.length * 16 ≤ 140737488351232) (hw : ∀ x ∈ l, I64 x.f0 ∧ I64 x.f1) : ∃ k, serinettelaw01_NumberSums.f k l = some true := by
  refine Ev.rounds ?_
  unfold serinettelaw01_NumberSums.f
  have h1 : Ev (fun k => ratio_Sum.f k l) (l.foldl (fun a x => addQ a (x.f0, x.f1)) (0, 1)) := by
    have := sum_l0 l hl hw l.length 0 (0, 1) (by omega) (by unfold I64Q I64; simp)
    exact this
  have h2 : Ev (fun k => serinetteref01_Sum.f k l) (l.foldl (fun a x => addQ a (x.f0, x.f1)) (0, 1)) := by
    unfold serinetteref01_Sum.f
    cases l with
    | nil => exact ev_pos rfl (Ev.bind (rwhole_ev (by unfold I64; omega)) (ev_const (by rw [mk_whole (by omega) (by omega)]; rfl)))
    | cons x l =>
      have hx := hw x (List.mem_cons_self ..)
      have hr : rd_T24 (x :: l) 0 = x := rfl
      refine ev_neg (by simp only [List.length_cons]; omega) (ev_pos (by simp only [List.length_cons]; omega) ?_)
      rw [hr]
      refine Ev.bind (rclean_ev (a := (x.f0, x.f1)) hx) ?_
      have := rsum_l0 (x :: l) hl hw l.length 1 (cleanQ (x.f0, x.f1)) (by simp only [List.length_cons]; omega) (cleanQ_I64 hx)
      rw [List.foldl_cons, addQ_zero]
      exact this
  refine Ev.bind h1 (Ev.bind h2 (ev_pos (by simp) (Ev.bind awake_ev (ev_const rfl))))

end Go.Proofs.Ytgecbfemlpmpeaa.PNumberSums
