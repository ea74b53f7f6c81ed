/- What the printed functions that NumberTests reaches come to, and the law itself, without Go and memory. -/
import Derived.Test.YtgecbfemlpmpeaaPNumberTestsx
import Derived.Test.YtgecbfemlpmpeaaSpec
namespace Go.Proofs.Ytgecbfemlpmpeaa.PNumberTests
open Go.RowKit Go.Proofs.YtgecbfemlpmpeaaW.PrintWords Go.Proofs.Ytgecbfemlpmpeaa.Plain
set_option linter.unusedVariables false
set_option linter.unusedSimpArgs false

theorem w64 {n : Int} (h : I64 n) : wrap64 n = n := by unfold I64 at h; unfold wrap64; omega
theorem wu64 (n : Int) : IntKind.u64.wrap n = n % 18446744073709551616 := by simp [IntKind.wrap, IntKind.bits, IntKind.signed]
theorem ev_pos {α : Type} {c : Prop} [Decidable c] {f g : Nat → Option α} {r : α} (h : c) (k : Ev f r) : Ev (fun n => if c then f n else g n) r := by simpa only [if_pos h] using k
theorem ev_neg {α : Type} {c : Prop} [Decidable c] {f g : Nat → Option α} {r : α} (h : ¬ c) (k : Ev g r) : Ev (fun n => if c then f n else g n) r := by simpa only [if_neg h] using k
theorem ev_const {α : Type} {x : Option α} {r : α} (h : x = some r) : Ev (fun _ => x) r := ⟨0, fun _ _ => h⟩
theorem ev_bind {α β : Type} {x : Option α} {f : Nat → α → Option β} {a : α} {r : β} (h : x = some a) (k : Ev (fun n => f n a) r) : Ev (fun n => x.bind (f n)) r := by
  subst h
  exact k
theorem i64_of {n : Int} (h : (Lit.int .i64 n).wf = true) : I64 n := by
  simp [Lit.wf] at h
  exact h
theorem ev_eq {α : Type} {f : Nat → Option α} {r s : α} (h : Ev f r) (e : r = s) : Ev f s := e ▸ h
theorem ev_ite {α : Type} {c : Prop} [Decidable c] {f g : Nat → Option α} {r s : α} (h : c → Ev f r) (k : ¬ c → Ev g s) : Ev (fun n => if c then f n else g n) (if c then r else s) := by
  by_cases e : c
  · rw [if_pos e]; exact ev_pos e (h e)
  · rw [if_neg e]; exact ev_neg e (k e)
theorem size_is {n : Int} (h : I64 n) : ratio_size.f n = some (n.natAbs : Int) := by
  unfold I64 at h
  unfold ratio_size.f
  simp only [wu64]
  split
  · congr 1; omega
  · congr 1; omega
theorem divisor_l0 : ∀ (b a : Nat), Ev (fun k => ratio_divisor.l0 k (a : Int) (b : Int)) ((Nat.gcd a b : Nat) : Int) := by
  intro b
  induction b using Nat.strongRecOn with
  | ind b ih =>
    intro a
    refine Ev.step (f := fun k => if (b : Int) = 0 then (some (a : Int)) else (ratio_divisor.l0 k (b : Int) (Int.tmod (a : Int) (b : Int)))) (fun k => by simp only [ratio_divisor.l0]) ?_
    by_cases hb : b = 0
    · subst hb
      refine ev_pos rfl (ev_const ?_)
      simp
    · refine ev_neg (by omega) ?_
      have h := ih (a % b) (Nat.mod_lt _ (by omega)) b
      rw [Int.ofNat_tmod] at h
      rw [Nat.gcd_comm, Nat.gcd_rec, Nat.gcd_comm]
      exact h
theorem divisor_ev (a b : Nat) : Ev (fun k => ratio_divisor.f k (a : Int) (b : Int)) ((Nat.gcd a b : Nat) : Int) := divisor_l0 b a
theorem is_ev {a : Q} (h : I64Q a) : Ev (fun k => ratio_Is.f k a.1 a.2) (okQ a) := by
  obtain ⟨n, d⟩ := a
  obtain ⟨h1, h2⟩ := h
  simp only at h1 h2
  show Ev (fun k => ratio_Is.f k n d) (isQ n d)
  unfold ratio_Is.f
  by_cases c1 : d ≥ 1
  · refine ev_pos c1 ?_
    by_cases c2 : d ≤ 1073741824
    · refine ev_pos c2 ?_
      by_cases c3 : n ≥ (-1073741824)
      · refine ev_pos c3 ?_
        by_cases c4 : n ≤ 1073741824
        · refine ev_pos c4 (ev_bind (size_is h1) (ev_bind (size_is h2) (Ev.bind (divisor_ev n.natAbs d.natAbs) (ev_const ?_))))
          congr 1
          rw [Bool.eq_iff_iff, isQ_iff]
          simp only [beq_iff_eq]
          omega
        · exact ev_neg c4 (ev_const (by rw [isQ_false.2 (by omega)]))
      · exact ev_neg c3 (ev_const (by rw [isQ_false.2 (by omega)]))
    · exact ev_neg c2 (ev_const (by rw [isQ_false.2 (by omega)]))
  · exact ev_neg c1 (ev_const (by rw [isQ_false.2 (by omega)]))
theorem make_ev {n d : Int} (hn : I64 n) (hd : I64 d) : Ev (fun k => ratio_Make.f k n d) (mk n d) := by
  have hn' := hn
  have hd' := hd
  unfold I64 at hn' hd'
  unfold ratio_Make.f
  by_cases c : d = 0
  · subst c
    refine ev_pos rfl (ev_const ?_)
    rw [mk_zero_den]
  · refine ev_neg c (ev_bind (size_is hn) (ev_bind (size_is hd) (Ev.bind (divisor_ev n.natAbs d.natAbs) ?_)))
    obtain ⟨l1, l2, l3, l4⟩ := lowest n.natAbs d.natAbs (by omega)
    have hg := gcd_pos_of (n := n) c
    have e1 : (Int.tdiv (n.natAbs : Int) ((Nat.gcd n.natAbs d.natAbs : Nat) : Int)) = ((n.natAbs / Nat.gcd n.natAbs d.natAbs : Nat) : Int) := by rw [← Int.ofNat_tdiv]
    have e2 : (Int.tdiv (d.natAbs : Int) ((Nat.gcd n.natAbs d.natAbs : Nat) : Int)) = ((d.natAbs / Nat.gcd n.natAbs d.natAbs : Nat) : Int) := by rw [← Int.ofNat_tdiv]
    have b1 := Nat.div_le_self n.natAbs (Nat.gcd n.natAbs d.natAbs)
    have b2 := Nat.div_le_self d.natAbs (Nat.gcd n.natAbs d.natAbs)
    simp only [e1, e2]
    refine ev_neg (by omega) ?_
    unfold mk
    rw [if_neg c]
    clear l1 l3 l4
    generalize n.natAbs / Nat.gcd n.natAbs d.natAbs = x at *
    generalize d.natAbs / Nat.gcd n.natAbs d.natAbs = y at *
    have w1 : IntKind.u64.wrap (x : Int) = (x : Int) := by rw [wu64]; omega
    have w2 : IntKind.u64.wrap (y : Int) = (y : Int) := by rw [wu64]; omega
    simp only [w1, w2]
    have j : ∀ b : Bool, b = true → Ev (fun k => ratio_Make.j0 k n d (x : Int) (y : Int) b) (0, 0) := by
      intro b hb
      subst hb
      refine Ev.step (f := fun k => (if true = true then (some ((0 : Int), (0 : Int))) else (if ((decide (n < 0)) != (decide (d < 0))) = true then (some (wrap64 (-(wrap64 ((x : Int)))), wrap64 ((y : Int)))) else (some (wrap64 ((x : Int)), wrap64 ((y : Int))))))) (fun k => by simp only [ratio_Make.j0]) (ev_pos rfl (ev_const rfl))
    by_cases c1 : 1073741824 < x
    · rw [if_pos (Or.inl c1)]
      exact ev_pos (by omega) (j _ rfl)
    · refine ev_neg (by omega) ?_
      by_cases c2 : 1073741824 < y
      · rw [if_pos (Or.inr c2)]
        exact j _ (by simp; omega)
      · rw [if_neg (by omega)]
        have e : decide ((y : Int) > 1073741824) = false := by simp; omega
        simp only [e]
        clear w1 w2 e1 e2 j
        have hx : wrap64 (x : Int) = (x : Int) := w64 (by unfold I64; omega)
        have hy : wrap64 (y : Int) = (y : Int) := w64 (by unfold I64; omega)
        have hz : wrap64 (-(x : Int)) = -(x : Int) := w64 (n := -(x : Int)) (by unfold I64; omega)
        refine Ev.step (f := fun k => (if false = true then (some ((0 : Int), (0 : Int))) else (if ((decide (n < 0)) != (decide (d < 0))) = true then (some (wrap64 (-(wrap64 ((x : Int)))), wrap64 ((y : Int)))) else (some (wrap64 ((x : Int)), wrap64 ((y : Int))))))) (fun k => by simp only [ratio_Make.j0]) ?_
        simp only [hx, hy, hz]
        refine ev_neg (by decide) ?_
        by_cases k : n < 0 ↔ d < 0
        · rw [if_pos k]
          refine ev_neg ?_ (ev_const rfl)
          by_cases k1 : n < 0
          · simp [k1, k.1 k1]
          · simp [k1, show ¬ d < 0 from fun h => k1 (k.2 h)]
        · rw [if_neg k]
          refine ev_pos ?_ (ev_const rfl)
          by_cases k1 : n < 0 <;> by_cases k2 : d < 0 <;> simp [k1, k2] at k ⊢
theorem rdivisor_l0 : ∀ (b a : Nat), Ev (fun k => serinetteref01_Divisor.l0 k (a : Int) (b : Int)) ((Nat.gcd a b : Nat) : Int) := by
  intro b
  induction b using Nat.strongRecOn with
  | ind b ih =>
    intro a
    refine Ev.step (f := fun k => if (b : Int) = 0 then (some (a : Int)) else (serinetteref01_Divisor.l0 k (b : Int) (Int.tmod (a : Int) (b : Int)))) (fun k => by simp only [serinetteref01_Divisor.l0]) ?_
    by_cases hb : b = 0
    · subst hb
      refine ev_pos rfl (ev_const ?_)
      simp
    · refine ev_neg (by omega) ?_
      have h := ih (a % b) (Nat.mod_lt _ (by omega)) b
      rw [Int.ofNat_tmod] at h
      rw [Nat.gcd_comm, Nat.gcd_rec, Nat.gcd_comm]
      exact h
theorem rdivisor_ev {a b : Int} (ha : I64 a) (hb : I64 b) (ha' : a ≠ -9223372036854775808) (hb' : b ≠ -9223372036854775808) : Ev (fun k => serinetteref01_Divisor.f k a b) ((Nat.gcd a.natAbs b.natAbs : Nat) : Int) := by
  unfold I64 at ha hb
  have j1 : ∀ (x y : Int), x = (a.natAbs : Int) → y = (b.natAbs : Int) → Ev (fun k => serinetteref01_Divisor.j1 k x y) ((Nat.gcd a.natAbs b.natAbs : Nat) : Int) := by
    intro x y hx hy
    subst hx hy
    exact Ev.step (f := fun k => serinetteref01_Divisor.l0 k (a.natAbs : Int) (b.natAbs : Int)) (fun k => by simp only [serinetteref01_Divisor.j1]) (rdivisor_l0 _ _)
  have j0 : ∀ (x : Int), x = (a.natAbs : Int) → Ev (fun k => serinetteref01_Divisor.j0 k x b) ((Nat.gcd a.natAbs b.natAbs : Nat) : Int) := by
    intro x hx
    refine Ev.step (f := fun k => if b < 0 then (serinetteref01_Divisor.j1 k x (wrap64 (-b))) else (serinetteref01_Divisor.j1 k x b)) (fun k => by simp only [serinetteref01_Divisor.j0]) ?_
    by_cases c : b < 0
    · refine ev_pos c (j1 _ _ hx ?_)
      rw [w64 (by unfold I64; omega)]; omega
    · exact ev_neg c (j1 _ _ hx (by omega))
  unfold serinetteref01_Divisor.f
  by_cases c : a < 0
  · refine ev_pos c (j0 _ ?_)
    rw [w64 (by unfold I64; omega)]; omega
  · exact ev_neg c (j0 _ (by omega))
theorem ris_ev {a : Q} (h : I64Q a) : Ev (fun k => serinetteref01_Is.f k a.1 a.2) (okQ a) := by
  obtain ⟨n, d⟩ := a
  obtain ⟨h1, h2⟩ := h
  simp only at h1 h2
  show Ev (fun k => serinetteref01_Is.f k n d) (isQ n d)
  unfold serinetteref01_Is.f
  by_cases c1 : d ≥ 1
  · refine ev_pos c1 ?_
    by_cases c2 : d ≤ 1073741824
    · refine ev_pos c2 ?_
      by_cases c3 : n ≥ (-1073741824)
      · refine ev_pos c3 ?_
        by_cases c4 : n ≤ 1073741824
        · refine ev_pos c4 (Ev.bind (rdivisor_ev h1 h2 (by omega) (by omega)) (ev_const ?_))
          congr 1
          rw [Bool.eq_iff_iff, isQ_iff]
          simp only [beq_iff_eq]
          omega
        · exact ev_neg c4 (ev_const (by rw [isQ_false.2 (by omega)]))
      · exact ev_neg c3 (ev_const (by rw [isQ_false.2 (by omega)]))
    · exact ev_neg c2 (ev_const (by rw [isQ_false.2 (by omega)]))
  · exact ev_neg c1 (ev_const (by rw [isQ_false.2 (by omega)]))
theorem least_is {n : Int} (h : I64 n) : serinetteref01_least.f n = some (decide (n = -9223372036854775808)) := by
  unfold I64 at h
  unfold serinetteref01_least.f
  by_cases c : n = wrap64 (-n)
  · rw [if_pos c]
    unfold wrap64 at c
    congr 1
    rw [Bool.eq_iff_iff]
    simp
    omega
  · rw [if_neg c]
    unfold wrap64 at c
    congr 1
    symm
    simp
    omega
theorem rmake_j2 {n d : Int} (hn : I64 n) (hd : I64 d) (hn' : n ≠ -9223372036854775808) (c : 0 < d) : Ev (fun k => serinetteref01_Make.j2 k n d) (mk n d) := by
  refine Ev.step (f := fun k => (serinetteref01_Divisor.f k n d).bind fun t140 => (if t140 = 0 then (none) else ((serinetteref01_Is.f k (wrap64 (Int.tdiv n t140)) (wrap64 (Int.tdiv d t140))).bind fun t142 => (if t142 = true then (some (wrap64 (Int.tdiv n t140), wrap64 (Int.tdiv d t140))) else ((serinetteref01_None.f).bind fun bt143 => (some (bt143.1, bt143.2))))))) (fun k => by simp only [serinetteref01_Make.j2]) ?_
  refine Ev.bind (rdivisor_ev hn hd hn' (by omega)) ?_
  have hg := gcd_pos_of (n := n) (d := d) (by omega)
  obtain ⟨l1, l2, l3, l4⟩ := lowest n.natAbs d.natAbs (by omega)
  refine ev_neg (by omega) ?_
  unfold I64 at hn hd
  have b1 := Nat.div_le_self n.natAbs (Nat.gcd n.natAbs d.natAbs)
  have b2 := Nat.div_le_self d.natAbs (Nat.gcd n.natAbs d.natAbs)
  have e2 : Int.tdiv d ((Nat.gcd n.natAbs d.natAbs : Nat) : Int) = ((d.natAbs / Nat.gcd n.natAbs d.natAbs : Nat) : Int) := by
    rw [Int.ofNat_tdiv, show (d.natAbs : Int) = d by omega]
  have e1 : Int.tdiv n ((Nat.gcd n.natAbs d.natAbs : Nat) : Int) = if n < 0 then -((n.natAbs / Nat.gcd n.natAbs d.natAbs : Nat) : Int) else ((n.natAbs / Nat.gcd n.natAbs d.natAbs : Nat) : Int) := by
    split
    · rename_i hneg
      rw [Int.ofNat_tdiv, ← Int.neg_tdiv, show -(n.natAbs : Int) = n by omega]
    · rw [Int.ofNat_tdiv, show (n.natAbs : Int) = n by omega]
  have hv : ∀ v : Int, (v = ((n.natAbs / Nat.gcd n.natAbs d.natAbs : Nat) : Int) ∨ v = -((n.natAbs / Nat.gcd n.natAbs d.natAbs : Nat) : Int)) → I64 v ∧ v.natAbs = n.natAbs / Nat.gcd n.natAbs d.natAbs := by
    intro v h
    unfold I64
    clear l1 l2 l3 l4
    generalize n.natAbs / Nat.gcd n.natAbs d.natAbs = x at *
    omega
  have hv2 := hv (Int.tdiv n ((Nat.gcd n.natAbs d.natAbs : Nat) : Int)) (by rw [e1]; split <;> simp)
  have w1 : wrap64 (Int.tdiv n ((Nat.gcd n.natAbs d.natAbs : Nat) : Int)) = Int.tdiv n ((Nat.gcd n.natAbs d.natAbs : Nat) : Int) := w64 hv2.1
  have w2 : wrap64 (Int.tdiv d ((Nat.gcd n.natAbs d.natAbs : Nat) : Int)) = Int.tdiv d ((Nat.gcd n.natAbs d.natAbs : Nat) : Int) := w64 (by rw [e2]; unfold I64; omega)
  simp only [w1, w2]
  have hI : I64Q (Int.tdiv n ((Nat.gcd n.natAbs d.natAbs : Nat) : Int), Int.tdiv d ((Nat.gcd n.natAbs d.natAbs : Nat) : Int)) := by
    exact ⟨hv2.1, by simp only; rw [e2]; unfold I64; omega⟩
  refine Ev.bind (ris_ev hI) ?_
  have hval : okQ (Int.tdiv n ((Nat.gcd n.natAbs d.natAbs : Nat) : Int), Int.tdiv d ((Nat.gcd n.natAbs d.natAbs : Nat) : Int)) = decide (¬ (1073741824 < n.natAbs / Nat.gcd n.natAbs d.natAbs ∨ 1073741824 < d.natAbs / Nat.gcd n.natAbs d.natAbs)) := by
    unfold okQ
    simp only
    have q := hv2.2
    rw [Bool.eq_iff_iff, isQ_iff, hv2.2, e2, Int.natAbs_natCast, l1]
    simp only [decide_eq_true_eq, and_true]
    clear hI w1 w2 hv hv2 e1 e2 l1 l3 l4 b1
    generalize Int.tdiv n ((Nat.gcd n.natAbs d.natAbs : Nat) : Int) = v at *
    generalize n.natAbs / Nat.gcd n.natAbs d.natAbs = x at *
    generalize d.natAbs / Nat.gcd n.natAbs d.natAbs = y at *
    omega
  by_cases cc : 1073741824 < n.natAbs / Nat.gcd n.natAbs d.natAbs ∨ 1073741824 < d.natAbs / Nat.gcd n.natAbs d.natAbs
  · refine ev_neg (by rw [hval]; simp; omega) (ev_const ?_)
    unfold mk
    rw [if_neg (by omega), if_pos cc]
    rfl
  · refine ev_pos (by rw [hval]; simp; omega) (ev_const ?_)
    unfold mk
    rw [if_neg (by omega), if_neg cc, e1, e2]
    congr 2
    by_cases k : n < 0
    · rw [if_pos k, if_neg (by omega)]
    · rw [if_neg k, if_pos (by omega)]
theorem rmake_j1 {n d : Int} (hn : I64 n) (hd : I64 d) (hn' : n ≠ -9223372036854775808) (hd' : d ≠ -9223372036854775808) (c : d ≠ 0) : Ev (fun k => serinetteref01_Make.j1 k n d false) (mk n d) := by
  refine Ev.step (f := fun k => if false = true then (if (Int.tmod n 2) = 0 then (if (Int.tmod d 2) = 0 then (serinetteref01_Make.l0 k (wrap64 (Int.tdiv n 2)) (wrap64 (Int.tdiv d 2))) else ((serinetteref01_None.f).bind fun bt136 => (some (bt136.1, bt136.2)))) else ((serinetteref01_None.f).bind fun bt138 => (some (bt138.1, bt138.2)))) else (if d < 0 then (serinetteref01_Make.j2 k (wrap64 (-n)) (wrap64 (-d))) else (serinetteref01_Make.j2 k n d))) (fun k => by simp only [serinetteref01_Make.j1]) ?_
  refine ev_neg (by decide) ?_
  unfold I64 at hn hd
  by_cases k : d < 0
  · refine ev_pos k ?_
    rw [w64 (n := -n) (by unfold I64; omega), w64 (n := -d) (by unfold I64; omega)]
    rw [mk_cross (n := n) (d := d) (n' := -n) (d' := -d) c (by omega) (by rw [Int.mul_neg, Int.neg_mul])]
    exact rmake_j2 (by unfold I64; omega) (by unfold I64; omega) (by omega) (by omega)
  · exact ev_neg k (rmake_j2 hn hd hn' (by omega))
theorem rmake_l0 {n d : Int} (hn : I64 n) (hd : I64 d) (hn' : n ≠ -9223372036854775808) (hd' : d ≠ -9223372036854775808) (c : d ≠ 0) : Ev (fun k => serinetteref01_Make.l0 k n d) (mk n d) := by
  refine Ev.step (f := fun k => (serinetteref01_least.f n).bind fun t134 => (if t134 = true then (serinetteref01_Make.j1 k n d true) else ((serinetteref01_least.f d).bind fun t135 => (serinetteref01_Make.j1 k n d t135)))) (fun k => by simp only [serinetteref01_Make.l0]) ?_
  refine ev_bind (least_is hn) (ev_neg (by simpa using hn') (ev_bind (least_is hd) ?_))
  simp only [decide_eq_false hd']
  exact rmake_j1 hn hd hn' hd' c
theorem gcd_pow2 (d : Nat) (h : d % 2 = 1) : Nat.gcd 9223372036854775808 d = 1 := by
  have h2 : Nat.Coprime 2 d := by
    rw [Nat.coprime_iff_gcd_eq_one, Nat.gcd_rec, h]; decide
  have := Nat.Coprime.pow_left 63 h2
  exact this
theorem rmake_ev {n d : Int} (hn : I64 n) (hd : I64 d) : Ev (fun k => serinetteref01_Make.f k n d) (mk n d) := by
  unfold serinetteref01_Make.f
  by_cases c : d = 0
  · subst c
    refine ev_pos rfl (ev_const ?_)
    rw [mk_zero_den]
    rfl
  · refine ev_neg c ?_
    by_cases k : n ≠ -9223372036854775808 ∧ d ≠ -9223372036854775808
    · exact rmake_l0 hn hd k.1 k.2 c
    · have hn' := hn
      have hd' := hd
      unfold I64 at hn' hd'
      have j1 : Ev (fun k => serinetteref01_Make.j1 k n d true) (mk n d) := by
        refine Ev.step (f := fun k => if true = true then (if (Int.tmod n 2) = 0 then (if (Int.tmod d 2) = 0 then (serinetteref01_Make.l0 k (wrap64 (Int.tdiv n 2)) (wrap64 (Int.tdiv d 2))) else ((serinetteref01_None.f).bind fun bt136 => (some (bt136.1, bt136.2)))) else ((serinetteref01_None.f).bind fun bt138 => (some (bt138.1, bt138.2)))) else (if d < 0 then (serinetteref01_Make.j2 k (wrap64 (-n)) (wrap64 (-d))) else (serinetteref01_Make.j2 k n d))) (fun k => by simp only [serinetteref01_Make.j1]) ?_
        refine ev_pos rfl ?_
        have tm : ∀ m : Int, Int.tmod m 2 = 0 ↔ m % 2 = 0 := fun m => by
          rw [← Int.dvd_iff_tmod_eq_zero, ← Int.dvd_iff_emod_eq_zero]
        by_cases c1 : Int.tmod n 2 = 0
        · refine ev_pos c1 ?_
          rw [tm] at c1
          by_cases c2 : Int.tmod d 2 = 0
          · refine ev_pos c2 ?_
            rw [tm] at c2
            have t1 : Int.tdiv n 2 = n / 2 := Int.tdiv_eq_ediv_of_dvd (Int.dvd_of_emod_eq_zero c1)
            have t2 : Int.tdiv d 2 = d / 2 := Int.tdiv_eq_ediv_of_dvd (Int.dvd_of_emod_eq_zero c2)
            rw [t1, t2, w64 (n := n / 2) (by unfold I64; omega), w64 (n := d / 2) (by unfold I64; omega)]
            rw [mk_cross (n := n) (d := d) (n' := n / 2) (d' := d / 2) c (by omega) (by
              obtain ⟨x, hx⟩ := Int.dvd_of_emod_eq_zero c1
              obtain ⟨y, hy⟩ := Int.dvd_of_emod_eq_zero c2
              rw [show n / 2 = x by omega, show d / 2 = y by omega, hx, hy, Int.mul_comm 2 x, Int.mul_assoc])]
            exact rmake_l0 (by unfold I64; omega) (by unfold I64; omega) (by omega) (by omega) (by omega)
          · refine ev_neg c2 (ev_const ?_)
            rw [tm] at c2
            have hN : n = -9223372036854775808 := by omega
            subst hN
            unfold mk
            rw [if_neg c, if_pos (Or.inl (by
              rw [show Int.natAbs (-9223372036854775808) = 9223372036854775808 from rfl, gcd_pow2 _ (by omega)]; omega))]
            rfl
        · refine ev_neg c1 (ev_const ?_)
          rw [tm] at c1
          have hD : d = -9223372036854775808 := by omega
          subst hD
          unfold mk
          rw [if_neg c, if_pos (Or.inr (by
            rw [show Int.natAbs (-9223372036854775808) = 9223372036854775808 from rfl, Nat.gcd_comm, gcd_pow2 _ (by omega)]; omega))]
          rfl
      refine Ev.step (f := fun k => (serinetteref01_least.f n).bind fun t134 => (if t134 = true then (serinetteref01_Make.j1 k n d true) else ((serinetteref01_least.f d).bind fun t135 => (serinetteref01_Make.j1 k n d t135)))) (fun k => by simp only [serinetteref01_Make.l0]) ?_
      refine ev_bind (least_is hn) ?_
      by_cases e : n = -9223372036854775808
      · exact ev_pos (by simpa using e) j1
      · refine ev_neg (by simpa using e) (ev_bind (least_is hd) ?_)
        have e2 : d = -9223372036854775808 := by
          by_cases e2 : d = -9223372036854775808
          · exact e2
          · exact absurd ⟨e, e2⟩ k
        simp only [decide_eq_true e2]
        exact j1
theorem rboth_ev {a b : Q} (ha : I64Q a) (hb : I64Q b) : Ev (fun k => serinetteref01_both.f k a.1 a.2 b.1 b.2) (okQ a && okQ b) := by
  unfold serinetteref01_both.f
  refine Ev.bind (ris_ev ha) ?_
  by_cases c : okQ a = true
  · refine ev_pos c (Ev.bind (ris_ev hb) (ev_const ?_))
    rw [c]; rfl
  · refine ev_neg c (ev_const ?_)
    rw [Bool.not_eq_true] at c
    rw [c]; rfl
theorem mul_bound {x y A B : Int} (h1 : -A ≤ x) (h2 : x ≤ A) (h3 : -B ≤ y) (h4 : y ≤ B) : -(A * B) ≤ x * y ∧ x * y ≤ A * B := by
  have hx : x.natAbs ≤ A.toNat := by omega
  have hy : y.natAbs ≤ B.toNat := by omega
  have h := Nat.mul_le_mul hx hy
  rw [← Int.natAbs_mul] at h
  have e : ((A.toNat * B.toNat : Nat) : Int) = A * B := by
    rw [Int.natCast_mul, Int.toNat_of_nonneg (by omega), Int.toNat_of_nonneg (by omega)]
  omega
theorem okQ_mul {a b : Q} (ha : okQ a = true) (hb : okQ b = true) :
    (-1152921504606846976 ≤ a.1 * b.2 ∧ a.1 * b.2 ≤ 1152921504606846976) ∧ (-1152921504606846976 ≤ b.1 * a.2 ∧ b.1 * a.2 ≤ 1152921504606846976) ∧ (-1152921504606846976 ≤ a.2 * b.2 ∧ a.2 * b.2 ≤ 1152921504606846976) ∧ (-1152921504606846976 ≤ a.1 * b.1 ∧ a.1 * b.1 ≤ 1152921504606846976) ∧ (-1152921504606846976 ≤ a.2 * b.1 ∧ a.2 * b.1 ≤ 1152921504606846976) := by
  have h1 := okQ_bounds ha
  have h2 := okQ_bounds hb
  exact ⟨mul_bound (A := 1073741824) (B := 1073741824) (by omega) (by omega) (by omega) (by omega), mul_bound (A := 1073741824) (B := 1073741824) (by omega) (by omega) (by omega) (by omega), mul_bound (A := 1073741824) (B := 1073741824) (by omega) (by omega) (by omega) (by omega), mul_bound (A := 1073741824) (B := 1073741824) (by omega) (by omega) (by omega) (by omega), mul_bound (A := 1073741824) (B := 1073741824) (by omega) (by omega) (by omega) (by omega)⟩
theorem add_ev {a b : Q} (ha : I64Q a) (hb : I64Q b) : Ev (fun k => ratio_Add.f k a.1 a.2 b.1 b.2) (addQ a b) := by
  unfold ratio_Add.f addQ
  refine Ev.bind (is_ev ha) ?_
  by_cases c : okQ a = true
  · rw [if_pos c]
    refine ev_pos c (Ev.bind (is_ev hb) ?_)
    by_cases c2 : okQ b = true
    · rw [if_pos c2]
      have m := okQ_mul c c2
      rw [w64 (n := a.1 * b.2) (by unfold I64; omega), w64 (n := b.1 * a.2) (by unfold I64; omega), w64 (n := a.1 * b.2 + b.1 * a.2) (by unfold I64; omega), w64 (n := a.2 * b.2) (by unfold I64; omega)]
      exact ev_pos c2 (Ev.bind (make_ev (by unfold I64; omega) (by unfold I64; omega)) (ev_const rfl))
    · rw [if_neg c2]; exact ev_neg c2 (ev_const rfl)
  · rw [if_neg c]; exact ev_neg c (ev_const rfl)
theorem mul_ev {a b : Q} (ha : I64Q a) (hb : I64Q b) : Ev (fun k => ratio_Mul.f k a.1 a.2 b.1 b.2) (mulQ a b) := by
  unfold ratio_Mul.f mulQ
  refine Ev.bind (is_ev ha) ?_
  by_cases c : okQ a = true
  · rw [if_pos c]
    refine ev_pos c (Ev.bind (is_ev hb) ?_)
    by_cases c2 : okQ b = true
    · rw [if_pos c2]
      have m := okQ_mul c c2
      rw [w64 (n := a.1 * b.1) (by unfold I64; omega), w64 (n := a.2 * b.2) (by unfold I64; omega)]
      exact ev_pos c2 (Ev.bind (make_ev (by unfold I64; omega) (by unfold I64; omega)) (ev_const rfl))
    · rw [if_neg c2]; exact ev_neg c2 (ev_const rfl)
  · rw [if_neg c]; exact ev_neg c (ev_const rfl)
theorem awake_ev : Ev (fun k => serinettelaw01_awake.f k) true := by
  unfold serinettelaw01_awake.f
  refine Ev.bind (add_ev (a := (1, 3)) (b := (1, 6)) (by unfold I64Q I64; simp) (by unfold I64Q I64; simp)) ?_
  have e : addQ (1, 3) (1, 6) = (1, 2) := by decide +kernel
  rw [e]
  refine ev_pos rfl (Ev.bind (mul_ev (a := (1073741824, 1)) (b := (2, 1)) (by unfold I64Q I64; simp) (by unfold I64Q I64; simp)) (ev_const ?_))
  have e2 : mulQ (1073741824, 1) (2, 1) = (0, 0) := by decide +kernel
  rw [e2]
  rfl
theorem rwhole_ev {n : Int} (h : I64 n) : Ev (fun k => serinetteref01_Whole.f k n) (mk n 1) := by
  unfold serinetteref01_Whole.f
  exact Ev.bind (rmake_ev h (by unfold I64; omega)) (ev_const rfl)
theorem sign_is (x y : Int) : ratio_sign.f (decide (x < y)) (decide (x > y)) = some (sgn x y) := by
  unfold ratio_sign.f sgn
  by_cases c : x < y
  · simp [c]
  · by_cases c2 : x > y
    · simp [c, c2]
    · simp [c, c2]
theorem cmp_ev {a b : Q} (ha : I64Q a) (hb : I64Q b) : Ev (fun k => ratio_Cmp.f k a.1 a.2 b.1 b.2) (cmpQ a b) := by
  unfold ratio_Cmp.f cmpQ
  refine Ev.bind (is_ev ha) (Ev.bind (is_ev hb) ?_)
  by_cases c : okQ a = true
  · rw [if_pos c]
    refine ev_pos c ?_
    refine Ev.step (fun k => ratio_Cmp.j0.eq_2 ..) ?_
    by_cases c2 : okQ b = true
    · rw [if_pos c2]
      refine ev_neg (by simp [c2]) ?_
      have m := okQ_mul c c2
      rw [w64 (n := a.1 * b.2) (by unfold I64; omega), w64 (n := b.1 * a.2) (by unfold I64; omega)]
      exact ev_bind (sign_is _ _) (ev_const rfl)
    · rw [if_neg c2]
      rw [Bool.not_eq_true] at c2
      refine ev_pos (by simp [c2]) (ev_pos c (ev_const ?_))
      rw [c2]
      rfl
  · rw [if_neg c]
    refine ev_neg c ?_
    refine Ev.step (fun k => ratio_Cmp.j0.eq_2 ..) ?_
    refine ev_pos rfl (ev_neg c (ev_const ?_))
    by_cases c2 : okQ b = true
    · rw [if_pos c2, c2]; rfl
    · rw [if_neg c2]
      rw [Bool.not_eq_true] at c2
      rw [c2]; rfl
theorem rcmp_ev {a b : Q} (ha : I64Q a) (hb : I64Q b) : Ev (fun k => serinetteref01_Cmp.f k a.1 a.2 b.1 b.2) (cmpQ a b) := by
  unfold serinetteref01_Cmp.f cmpQ
  refine Ev.bind (ris_ev ha) ?_
  by_cases c : okQ a = true
  · rw [if_pos c]
    refine ev_pos c ?_
    refine Ev.step (fun k => serinetteref01_Cmp.j0.eq_2 ..) ?_
    refine ev_neg (by decide) (Ev.bind (ris_ev ha) (ev_pos c (Ev.bind (ris_ev hb) ?_)))
    by_cases c2 : okQ b = true
    · refine ev_eq (ev_pos c2 ?_) (if_pos c2).symm
      have m := okQ_mul c c2
      rw [w64 (n := a.1 * b.2) (by unfold I64; omega), w64 (n := b.1 * a.2) (by unfold I64; omega)]
      unfold sgn
      refine ev_ite (fun _ => ev_const rfl) (fun _ => ev_ite (fun _ => ev_const rfl) (fun _ => ev_const rfl))
    · exact ev_eq (ev_neg c2 (ev_const rfl)) (if_neg c2).symm
  · rw [if_neg c]
    refine ev_neg c (Ev.bind (ris_ev hb) ?_)
    refine Ev.step (fun k => serinetteref01_Cmp.j0.eq_2 ..) ?_
    by_cases c2 : okQ b = true
    · rw [if_pos c2]
      exact ev_neg (by simp [c2]) (Ev.bind (ris_ev ha) (ev_neg c (ev_const rfl)))
    · rw [if_neg c2]
      exact ev_pos (by simp [c2]) (ev_const rfl)
/-- A comparison's answer by its name's letters. -/
def testQ (s : List UInt8) (a b : Q) : Q :=
  if okQ a = true then (if okQ b = true then
    (if s = [108, 116] then (if cmpQ a b < 0 then (1, 1) else (0, 1)) else if s = [108, 101] then (if cmpQ a b ≤ 0 then (1, 1) else (0, 1)) else
     if s = [101, 113] then (if cmpQ a b = 0 then (1, 1) else (0, 1)) else if s = [110, 101] then (if cmpQ a b = 0 then (0, 1) else (1, 1)) else (0, 0)) else (0, 0)) else (0, 0)
theorem test_ev (s : ByteArray) {a b : Q} (ha : I64Q a) (hb : I64Q b) : Ev (fun k => ratio_Test.f k s a.1 a.2 b.1 b.2) (testQ s.toList a b) := by
  unfold ratio_Test.f testQ
  refine Ev.bind (is_ev ha) ?_
  by_cases c : okQ a = true
  · rw [if_pos c]
    refine ev_pos c (Ev.bind (is_ev hb) ?_)
    refine Ev.step (fun k => ratio_Test.j0.eq_2 ..) ?_
    by_cases c2 : okQ b = true
    · rw [if_pos c2]
      refine ev_neg (by simp [c2]) (Ev.bind (cmp_ev ha hb) ?_)
      refine ev_ite (fun _ => ev_ite (fun _ => ev_const rfl) (fun _ => ev_const rfl)) (fun _ => ?_)
      refine ev_ite (fun _ => ev_ite (fun _ => ev_const rfl) (fun _ => ev_const rfl)) (fun _ => ?_)
      refine ev_ite (fun _ => ev_ite (fun _ => ev_const rfl) (fun _ => ev_const rfl)) (fun _ => ?_)
      exact ev_ite (fun _ => ev_ite (fun _ => ev_const rfl) (fun _ => ev_const rfl)) (fun _ => ev_const rfl)
    · rw [if_neg c2]
      exact ev_pos (by simp [c2]) (ev_const rfl)
  · rw [if_neg c]
    refine ev_neg c ?_
    refine Ev.step (fun k => ratio_Test.j0.eq_2 ..) ?_
    exact ev_pos rfl (ev_const rfl)
theorem rtruth_ev (b : Bool) : Ev (fun k => serinetteref01_Truth.f k b) (if b = true then (1, 1) else (0, 1)) := by
  unfold serinetteref01_Truth.f
  refine ev_ite (fun _ => Ev.bind (rwhole_ev (by unfold I64; omega)) (ev_const ?_)) (fun _ => Ev.bind (rwhole_ev (by unfold I64; omega)) (ev_const ?_))
  · rw [mk_whole (by omega) (by omega)]
  · rw [mk_whole (by omega) (by omega)]
theorem rtest_ev (s : ByteArray) {a b : Q} (ha : I64Q a) (hb : I64Q b) : Ev (fun k => serinetteref01_Test.f k s a.1 a.2 b.1 b.2) (testQ s.toList a b) := by
  unfold serinetteref01_Test.f testQ
  refine Ev.bind (rboth_ev ha hb) ?_
  by_cases c : okQ a = true
  · rw [if_pos c]
    by_cases c2 : okQ b = true
    · rw [if_pos c2]
      refine ev_pos (by rw [c, c2]; rfl) (Ev.bind (rcmp_ev ha hb) ?_)
      refine ev_ite (fun _ => Ev.bind (rtruth_ev _) (ev_const ?_)) (fun _ => ?_)
      · simp
      refine ev_ite (fun _ => Ev.bind (rtruth_ev _) (ev_const ?_)) (fun _ => ?_)
      · simp
      refine ev_ite (fun _ => Ev.bind (rtruth_ev _) (ev_const ?_)) (fun _ => ?_)
      · simp
      refine ev_ite (fun _ => Ev.bind (rtruth_ev _) (ev_const ?_)) (fun _ => ev_const rfl)
      · by_cases e : cmpQ a b = 0
        · simp [e]
        · simp [e]
    · rw [if_neg c2]; exact ev_neg (by simp [c2]) (ev_const rfl)
  · rw [if_neg c]; exact ev_neg (by simp [c]) (ev_const rfl)
theorem floordiv_is {n d : Int} (hn : I64 n) (hd : 0 < d) : serinetteref01_FloorDiv.f n d = some (n / d) := by
  unfold I64 at hn
  unfold serinetteref01_FloorDiv.f
  rw [if_neg (by omega)]
  have h1 : n / d ≤ n ∨ n / d ≤ 0 := by
    by_cases h : 0 ≤ n
    · exact .inl (Int.ediv_le_self d h)
    · exact .inr (Int.le_of_lt (Int.ediv_neg_of_neg_of_pos (by omega) hd))
  have h2 : n ≤ n / d ∨ 0 ≤ n / d := by
    by_cases h : 0 ≤ n
    · exact .inr (Int.ediv_nonneg h (by omega))
    · left
      rw [Int.le_ediv_iff_mul_le hd]
      have : n * d ≤ n * 1 := Int.mul_le_mul_of_nonpos_left (by omega) (by omega)
      omega
  have key : Int.tmod n d < 0 ↔ n < 0 ∧ n % d ≠ 0 := by
    by_cases h : 0 ≤ n
    · have := Int.tmod_nonneg d h
      omega
    · have e : Int.tmod n d = -(Int.tmod (-n) d) := by rw [Int.neg_tmod, Int.neg_neg]
      have h3 := Int.tmod_nonneg d (show 0 ≤ -n by omega)
      have h4 : Int.tmod n d = 0 ↔ n % d = 0 := by rw [← Int.dvd_iff_tmod_eq_zero, ← Int.dvd_iff_emod_eq_zero]
      omega
  have e := Int.tdiv_eq_ediv (a := n) (b := d)
  have hs : d.sign = 1 := Int.sign_eq_one_of_pos hd
  have hdv : d ∣ n ↔ n % d = 0 := Int.dvd_iff_emod_eq_zero
  by_cases c : Int.tmod n d < 0
  · rw [if_pos c]
    have c' := key.1 c
    rw [if_neg (by rw [hdv]; omega), hs] at e
    rw [e, w64 (n := n / d + 1) (by unfold I64; omega), show n / d + 1 - 1 = n / d by omega, w64 (by unfold I64; omega)]
  · rw [if_neg c]
    have e2 : Int.tdiv n d = n / d := by
      rw [e]
      by_cases h : 0 ≤ n
      · rw [if_pos (.inl h)]; omega
      · rw [if_pos (.inr (hdv.2 (by omega)))]; omega
    rw [e2, w64 (by unfold I64; omega)]
/-- A binary digit. -/
def dg (v : Int) (k : Nat) : Int := v / 2 ^ k % 2
theorem two_pow_le {k : Nat} (h : k ≤ 62) : (1 : Int) ≤ 2 ^ k ∧ (2 : Int) ^ k ≤ 4611686018427387904 := by
  have h1 : (1 : Nat) ≤ 2 ^ k := Nat.one_le_two_pow
  have h2 : 2 ^ k ≤ 2 ^ 62 := Nat.pow_le_pow_right (by omega) h
  have e : ((2 ^ k : Nat) : Int) = (2 : Int) ^ k := by rw [Int.natCast_pow]; rfl
  rw [← e]
  have e2 : (2 : Nat) ^ 62 = 4611686018427387904 := by decide
  omega
theorem i64wrap {n : Int} (h : I64 n) : IntKind.i64.wrap n = n := by
  unfold I64 at h
  have : IntKind.i64.wrap n = wrap64 n := by
    rw [IntKind.wrap_i64]; unfold wrap64; rfl
  rw [this]
  unfold wrap64
  omega
theorem shl_one {k : Nat} (h : k ≤ 62) : shl .i64 1 (k : Int) = 2 ^ k := by
  have := two_pow_le h
  unfold shl
  rw [Int.toNat_natCast, show min k (IntKind.bits .i64) = k from Nat.min_eq_left (by simp [IntKind.bits]; omega), Int.one_mul, i64wrap (by unfold I64; omega)]
theorem digit_is {v : Int} (hv : I64 v) (k : Nat) (hk : k ≤ 62) : serinetteref01_digit.f v (k : Int) = some (dg v k) := by
  have hp := two_pow_le hk
  unfold serinetteref01_digit.f
  rw [if_pos (by omega), shl_one hk, floordiv_is hv (by omega)]
  simp only [Option.bind_some]
  have hv' := hv
  unfold I64 at hv'
  have hb : I64 (v / 2 ^ k) := by
    have h1 : v / 2 ^ k ≤ 9223372036854775807 := by
      by_cases h : 0 ≤ v
      · exact Int.le_trans (Int.ediv_le_self _ h) hv'.2
      · have := Int.ediv_neg_of_neg_of_pos (a := v) (b := 2 ^ k) (by omega) (by omega)
        omega
    have h2 : -9223372036854775808 ≤ v / 2 ^ k := by
      rw [Int.le_ediv_iff_mul_le (by omega)]
      have : (-9223372036854775808 : Int) * 2 ^ k ≤ -9223372036854775808 * 1 := Int.mul_le_mul_of_nonpos_left (by omega) hp.1
      omega
    exact ⟨h2, h1⟩
  rw [floordiv_is hb (by omega)]
  simp only [Option.bind_some]
  congr 1
  unfold dg
  unfold I64 at hb
  generalize v / 2 ^ k = u at *
  rw [w64 (n := 2 * (u / 2)) (by unfold I64; omega), w64 (n := u - 2 * (u / 2)) (by unfold I64; omega)]
  omega
/-- The low digits. -/
theorem low_succ (v : Int) (k : Nat) : v % 2 ^ (k + 1) = v % 2 ^ k + dg v k * 2 ^ k := by
  unfold dg
  have hp : (0 : Int) < 2 ^ k := Int.pow_pos (by omega)
  have e1 := Int.emod_def v (2 ^ (k + 1))
  have e2 := Int.emod_def v (2 ^ k)
  have e3 := Int.emod_def (v / 2 ^ k) 2
  have e4 : v / (2 ^ k * 2) = v / 2 ^ k / 2 := by rw [Int.ediv_ediv, if_neg (fun h => by omega), Int.sub_zero]
  rw [Int.pow_succ, e4] at e1
  rw [Int.pow_succ, e1, e2, e3, Int.sub_mul]
  rw [Int.mul_comm (v / 2 ^ k) (2 ^ k)]
  have : 2 ^ k * 2 * (v / 2 ^ k / 2) = 2 * (v / 2 ^ k / 2) * 2 ^ k := by
    rw [Int.mul_comm (2 ^ k) 2, Int.mul_assoc, Int.mul_assoc, Int.mul_comm (2 ^ k)]
  rw [this]
  omega
theorem dg_01 (v : Int) (k : Nat) : dg v k = 0 ∨ dg v k = 1 := by unfold dg; omega
theorem whole_of_digits {v : Int} (h0 : -4294967296 ≤ v) (h1 : v < 4294967296) : v % 2 ^ 32 - dg v 32 * 4294967296 = v := by
  unfold dg
  have : (2 : Int) ^ 32 = 4294967296 := by decide
  rw [this]
  omega
/-- What a name joins two digits to. -/
def opD (s : List UInt8) (x y : Int) : Int := if s = [97, 110, 100] then x * y else if s = [111, 114] then x + y - x * y else x + y - 2 * x * y
theorem opD_01 (s : List UInt8) {x y : Int} (hx : x = 0 ∨ x = 1) (hy : y = 0 ∨ y = 1) : opD s x y = 0 ∨ opD s x y = 1 := by
  unfold opD
  rcases hx with rfl | rfl <;> rcases hy with rfl | rfl <;> split <;> (try split) <;> simp
theorem logic_l0 (s : ByteArray) {a b R : Int} (ha : I64 a) (hb : I64 b) (h0 : -4294967296 ≤ R) (h1 : R < 4294967296) (hR : ∀ k, k ≤ 32 → dg R k = opD s.toList (dg a k) (dg b k)) : ∀ (d i : Nat), i + d = 32 →
    Ev (fun k => serinetteref01_logic.l0 k s a b (R % 2 ^ i) (i : Int)) R := by
  have last : ∀ x : Int, Ev (fun k => serinetteref01_logic.l0 k s a b x 33) x := by
    intro x
    refine Ev.step (fun k => serinetteref01_logic.l0.eq_2 ..) ?_
    exact ev_neg (by decide) (ev_const rfl)
  have step : ∀ i : Nat, i ≤ 32 → ∀ x : Int, 0 ≤ x → x < 4294967296 → ∀ r : Int,
      Ev (fun k => serinetteref01_logic.l0 k s a b (if i = 32 then x - dg R 32 * 4294967296 else x + dg R i * 2 ^ i) ((i : Int) + 1)) r →
      Ev (fun k => serinetteref01_logic.l0 k s a b x (i : Int)) r := by
    intro i hi x hx0 hx1 r hnext
    refine Ev.step (fun k => serinetteref01_logic.l0.eq_2 ..) ?_
    refine ev_pos (by omega) (ev_bind (digit_is ha i (by omega)) (ev_bind (digit_is hb i (by omega)) ?_))
    have z := hR i hi
    have z2 := dg_01 R i
    have p := two_pow_le (k := i) (by omega)
    have q : (2 : Int) ^ i ≤ 4294967296 := by
      have h2 : 2 ^ i ≤ 2 ^ 32 := Nat.pow_le_pow_right (by omega) hi
      have e : ((2 ^ i : Nat) : Int) = (2 : Int) ^ i := by rw [Int.natCast_pow]; rfl
      rw [← e]
      have e2 : (2 : Nat) ^ 32 = 4294967296 := by decide
      omega
    have da := dg_01 a i
    have db := dg_01 b i
    have wi : wrap64 ((i : Int) + 1) = (i : Int) + 1 := w64 (by unfold I64; omega)
    rw [shl_one (by omega), wi]
    -- the two ends of a name's way
    have fin : ∀ w : Int, w = dg R i → Ev (fun k => if (i : Int) = 32 then (serinetteref01_logic.l0 k s a b (wrap64 (x - wrap64 (w * 4294967296))) ((i : Int) + 1)) else (if 0 ≤ (i : Int) then (serinetteref01_logic.l0 k s a b (wrap64 (x + wrap64 (w * 2 ^ i))) ((i : Int) + 1)) else none)) r := by
      intro w hw
      subst hw
      by_cases c : i = 32
      · subst c
        refine ev_pos rfl ?_
        rw [if_pos rfl] at hnext
        rw [w64 (n := dg R 32 * 4294967296) (by unfold I64; omega), w64 (by unfold I64; omega)]
        exact hnext
      · refine ev_neg (by omega) (ev_pos (by omega) ?_)
        rw [if_neg c] at hnext
        have hm : 0 ≤ dg R i * 2 ^ i ∧ dg R i * 2 ^ i ≤ 4294967296 := by
          rcases z2 with h | h <;> rw [h] <;> omega
        rw [w64 (n := dg R i * 2 ^ i) (by unfold I64; omega), w64 (by unfold I64; omega)]
        exact hnext
    unfold opD at z
    have m1 : 0 ≤ dg a i * dg b i ∧ dg a i * dg b i ≤ 1 := by rcases da with h | h <;> rcases db with h' | h' <;> rw [h, h'] <;> decide
    have m2 : 0 ≤ 2 * dg a i * dg b i ∧ 2 * dg a i * dg b i ≤ 2 := by rcases da with h | h <;> rcases db with h' | h' <;> rw [h, h'] <;> decide
    have w1 : wrap64 (dg a i * dg b i) = dg a i * dg b i := w64 (by unfold I64; omega)
    have w2 : wrap64 (dg a i + dg b i) = dg a i + dg b i := w64 (by unfold I64; omega)
    have w3 : wrap64 (2 * dg a i) = 2 * dg a i := w64 (by unfold I64; omega)
    have w4 : wrap64 (2 * dg a i * dg b i) = 2 * dg a i * dg b i := w64 (by unfold I64; omega)
    have w5 : wrap64 (dg a i + dg b i - dg a i * dg b i) = dg a i + dg b i - dg a i * dg b i := w64 (by unfold I64; omega)
    have w6 : wrap64 (dg a i + dg b i - 2 * dg a i * dg b i) = dg a i + dg b i - 2 * dg a i * dg b i := w64 (by unfold I64; omega)
    simp only [w1, w2, w3, w4, w5, w6]
    by_cases c1 : s.toList = [97, 110, 100]
    · rw [if_pos c1] at z
      exact ev_pos c1 (fin _ z.symm)
    · rw [if_neg c1] at z
      refine ev_neg c1 ?_
      by_cases c2 : s.toList = [111, 114]
      · rw [if_pos c2] at z
        exact ev_pos c2 (fin _ z.symm)
      · rw [if_neg c2] at z
        exact ev_neg c2 (fin _ z.symm)
  intro d
  induction d with
  | zero =>
    intro i hi
    obtain rfl : i = 32 := by omega
    have hp : (0 : Int) < 2 ^ 32 := by decide
    have e : (2 : Int) ^ 32 = 4294967296 := by decide
    have r0 := Int.emod_nonneg R (show (2 : Int) ^ 32 ≠ 0 by omega)
    have r1 := Int.emod_lt_of_pos R hp
    refine step 32 (by omega) _ r0 (by omega) R ?_
    rw [if_pos rfl, whole_of_digits h0 h1]
    exact last R
  | succ d ih =>
    intro i hi
    have hp : (0 : Int) < 2 ^ i := Int.pow_pos (by omega)
    have q : (2 : Int) ^ i ≤ 4294967296 := by
      have h2 : 2 ^ i ≤ 2 ^ 32 := Nat.pow_le_pow_right (by omega) (by omega)
      have e : ((2 ^ i : Nat) : Int) = (2 : Int) ^ i := by rw [Int.natCast_pow]; rfl
      rw [← e]
      have e2 : (2 : Nat) ^ 32 = 4294967296 := by decide
      omega
    have r0 := Int.emod_nonneg R (show (2 : Int) ^ i ≠ 0 by omega)
    have r1 := Int.emod_lt_of_pos R hp
    refine step i (by omega) _ r0 (by omega) R ?_
    rw [if_neg (by omega), ← low_succ]
    exact ih (i + 1) (by omega)
theorem logic_ev (s : ByteArray) {a b R : Int} (ha : I64 a) (hb : I64 b) (h0 : -4294967296 ≤ R) (h1 : R < 4294967296) (hR : ∀ k, k ≤ 32 → dg R k = opD s.toList (dg a k) (dg b k)) : Ev (fun k => serinetteref01_logic.f k s a b) R := by
  have := logic_l0 s ha hb h0 h1 hR 32 0 (by omega)
  have e : R % 2 ^ 0 = 0 := by simp
  rw [e] at this
  exact this
theorem toInt_mod2 (x : BitVec 64) : x.toInt % 2 = if x.getLsbD 0 = true then 1 else 0 := by
  have h : x.getLsbD 0 = decide (x.toNat % 2 = 1) := by
    show x.toNat.testBit 0 = _
    rw [Nat.testBit_zero]
  rw [h, BitVec.toInt_eq_toNat_cond]
  simp only [decide_eq_true_eq]
  split <;> split <;> omega
theorem and_mod2 (x y : BitVec 64) : (x &&& y).toInt % 2 = (x.toInt % 2) * (y.toInt % 2) := by
  rw [toInt_mod2, toInt_mod2, toInt_mod2, BitVec.getLsbD_and]
  cases x.getLsbD 0 <;> cases y.getLsbD 0 <;> simp
theorem or_mod2 (x y : BitVec 64) : (x ||| y).toInt % 2 = x.toInt % 2 + y.toInt % 2 - (x.toInt % 2) * (y.toInt % 2) := by
  rw [toInt_mod2, toInt_mod2, toInt_mod2, BitVec.getLsbD_or]
  cases x.getLsbD 0 <;> cases y.getLsbD 0 <;> simp
theorem xor_mod2 (x y : BitVec 64) : (x ^^^ y).toInt % 2 = x.toInt % 2 + y.toInt % 2 - 2 * (x.toInt % 2) * (y.toInt % 2) := by
  rw [toInt_mod2, toInt_mod2, toInt_mod2, BitVec.getLsbD_xor]
  cases x.getLsbD 0 <;> cases y.getLsbD 0 <;> simp
theorem wrap_toInt (x : BitVec 64) : IntKind.i64.wrap (x.toNat : Int) = x.toInt := by
  have h := x.isLt
  rw [IntKind.wrap_i64, BitVec.toInt_eq_toNat_cond]
  split <;> omega
theorem toInt_ofInt {v : Int} (h : I64 v) : (BitVec.ofInt 64 v).toInt = v := by
  unfold I64 at h
  rw [BitVec.toInt_ofInt, Int.bmod_def]
  split <;> omega
theorem sshift_toInt (x : BitVec 64) (k : Nat) : (x.sshiftRight k).toInt = x.toInt / 2 ^ k := by
  rw [BitVec.toInt_sshiftRight, Int.shiftRight_eq_div_pow]
  rw [Int.natCast_pow]
  rfl
theorem sshift_of {v : Int} (h : I64 v) (k : Nat) : ((BitVec.ofInt 64 v).sshiftRight k).toInt = v / 2 ^ k := by rw [sshift_toInt, toInt_ofInt h]
/-- What an operation on binary digits gives of two whole numbers. -/
def bitsI (s : List UInt8) (a b : Int) : Int := if s = [97, 110, 100] then Go.bits .and .i64 a b else if s = [111, 114] then Go.bits .or .i64 a b else Go.bits .xor .i64 a b
theorem bits_and_is (a b : Int) : Go.bits .and .i64 a b = (BitVec.ofInt 64 a &&& BitVec.ofInt 64 b).toInt := wrap_toInt _
theorem bits_or_is (a b : Int) : Go.bits .or .i64 a b = (BitVec.ofInt 64 a ||| BitVec.ofInt 64 b).toInt := wrap_toInt _
theorem bits_xor_is (a b : Int) : Go.bits .xor .i64 a b = (BitVec.ofInt 64 a ^^^ BitVec.ofInt 64 b).toInt := wrap_toInt _
theorem bitsI_I64 (s : List UInt8) (a b : Int) : I64 (bitsI s a b) := by
  have key : ∀ x : BitVec 64, I64 x.toInt := by
    intro x
    have h := x.isLt
    unfold I64
    rw [BitVec.toInt_eq_toNat_cond]
    split <;> omega
  unfold bitsI
  split
  · rw [bits_and_is]; exact key _
  · split
    · rw [bits_or_is]; exact key _
    · rw [bits_xor_is]; exact key _
theorem bitsI_dg (s : List UInt8) {a b : Int} (ha : I64 a) (hb : I64 b) (k : Nat) : dg (bitsI s a b) k = opD s (dg a k) (dg b k) := by
  unfold bitsI opD dg
  split
  · rw [bits_and_is, ← sshift_toInt, BitVec.sshiftRight_and_distrib, and_mod2, sshift_of ha, sshift_of hb]
  · split
    · rw [bits_or_is, ← sshift_toInt, BitVec.sshiftRight_or_distrib, or_mod2, sshift_of ha, sshift_of hb]
    · rw [bits_xor_is, ← sshift_toInt, BitVec.sshiftRight_xor_distrib, xor_mod2, sshift_of ha, sshift_of hb]
theorem toInt_top {x : BitVec 64} (h : x.toInt = 0 ∨ x.toInt = -1) : x = 0#64 ∨ x = 18446744073709551615#64 := by
  rcases h with h | h
  · left
    apply BitVec.eq_of_toInt_eq
    rw [h]; rfl
  · right
    apply BitVec.eq_of_toInt_eq
    rw [h]; rfl
theorem bitsI_bounds (s : List UInt8) {a b : Int} (ha0 : -4294967296 ≤ a) (ha1 : a < 4294967296) (hb0 : -4294967296 ≤ b) (hb1 : b < 4294967296) : -4294967296 ≤ bitsI s a b ∧ bitsI s a b < 4294967296 := by
  have e32 : (2 : Int) ^ 32 = 4294967296 := by decide
  have ta := toInt_top (x := (BitVec.ofInt 64 a).sshiftRight 32) (by rw [sshift_of (by unfold I64; omega), e32]; omega)
  have tb := toInt_top (x := (BitVec.ofInt 64 b).sshiftRight 32) (by rw [sshift_of (by unfold I64; omega), e32]; omega)
  have key : ∀ x : BitVec 64, (x.sshiftRight 32 = 0#64 ∨ x.sshiftRight 32 = 18446744073709551615#64) → -4294967296 ≤ x.toInt ∧ x.toInt < 4294967296 := by
    intro x hx
    have e := sshift_toInt x 32
    rw [e32] at e
    rcases hx with hx | hx
    · rw [hx] at e
      have z : (0#64 : BitVec 64).toInt = 0 := rfl
      omega
    · rw [hx] at e
      have z : (18446744073709551615#64 : BitVec 64).toInt = -1 := rfl
      omega
  unfold bitsI
  split
  · rw [bits_and_is]
    apply key
    rw [BitVec.sshiftRight_and_distrib]
    rcases ta with h | h <;> rcases tb with h' | h' <;> rw [h, h'] <;> decide
  · split
    · rw [bits_or_is]
      apply key
      rw [BitVec.sshiftRight_or_distrib]
      rcases ta with h | h <;> rcases tb with h' | h' <;> rw [h, h'] <;> decide
    · rw [bits_xor_is]
      apply key
      rw [BitVec.sshiftRight_xor_distrib]
      rcases ta with h | h <;> rcases tb with h' | h' <;> rw [h, h'] <;> decide
/-- What an operation on binary digits, or a shift, gives, by its name's letters. -/
def bitsQ (s : List UInt8) (a b : Q) : Q :=
  if okQ a = true ∧ okQ b = true ∧ a.2 = 1 ∧ b.2 = 1 then
    (if s = [97, 110, 100] ∨ s = [111, 114] ∨ s = [120, 111, 114] then mk (bitsI s a.1 b.1) 1 else
     if s = [115, 104, 108] then (if 0 ≤ b.1 ∧ b.1 ≤ 62 then mk (a.1 * 2 ^ b.1.toNat) 1 else (0, 0)) else
     if s = [115, 104, 114] then (if 0 ≤ b.1 ∧ b.1 ≤ 62 then mk (a.1 / 2 ^ b.1.toNat) 1 else (0, 0)) else (0, 0)) else (0, 0)
theorem mk_far {n : Int} (h : 1073741824 < n.natAbs) : mk n 1 = (0, 0) := by
  unfold mk
  rw [if_neg (by omega), show (1 : Int).natAbs = 1 from rfl, Nat.gcd_one_right, Nat.div_one, if_pos (.inl h)]
theorem far_pow {n : Int} (hn : n ≠ 0) {k : Nat} (hk : 31 ≤ k) : 1073741824 < (n * 2 ^ k).natAbs := by
  rw [Int.natAbs_mul, Int.natAbs_pow]
  have h1 : 2 ^ 31 ≤ 2 ^ k := Nat.pow_le_pow_right (by omega) hk
  have h2 : 1 * 2 ^ k ≤ n.natAbs * 2 ^ k := Nat.mul_le_mul_right _ (by omega)
  have e : (2 : Nat) ^ 31 = 2147483648 := by decide
  have e2 : Int.natAbs 2 = 2 := rfl
  rw [e2]
  omega
theorem bits_j0none (s : ByteArray) (a b : Q) : Ev (fun k => ratio_Bits.j0 k s true a.1 a.2 b.1 b.2) (0, 0) := by
  refine Ev.step (fun k => ratio_Bits.j0.eq_2 ..) ?_
  exact ev_pos rfl (ev_const rfl)
theorem bits_ev (s : ByteArray) {a b : Q} (ha : I64Q a) (hb : I64Q b) : Ev (fun k => ratio_Bits.f k s a.1 a.2 b.1 b.2) (bitsQ s.toList a b) := by
  unfold ratio_Bits.f
  refine Ev.bind (is_ev ha) ?_
  by_cases c1 : okQ a = true
  · refine ev_pos c1 (Ev.bind (is_ev hb) ?_)
    by_cases c2 : okQ b = true
    · refine ev_pos c2 ?_
      by_cases c3 : a.2 = 1
      · refine ev_pos c3 ?_
        by_cases c4 : b.2 = 1
        · rw [show (b.2 != 1) = false by simp [c4]]
          have ba := okQ_bounds c1
          have bb := okQ_bounds c2
          unfold bitsQ
          rw [if_pos ⟨c1, c2, c3, c4⟩]
          refine Ev.step (fun k => ratio_Bits.j0.eq_2 ..) (ev_neg (by decide) ?_)
          by_cases n1 : s.toList = [97, 110, 100]
          · rw [if_pos (.inl n1)]
            refine ev_pos n1 (Ev.bind (make_ev ?_ (by unfold I64; omega)) (ev_const ?_))
            · have := bitsI_I64 s.toList a.1 b.1; unfold bitsI at this; rw [if_pos n1] at this; exact this
            · unfold bitsI; rw [if_pos n1]
          refine ev_neg n1 ?_
          by_cases n2 : s.toList = [111, 114]
          · rw [if_pos (.inr (.inl n2))]
            refine ev_pos n2 (Ev.bind (make_ev ?_ (by unfold I64; omega)) (ev_const ?_))
            · have := bitsI_I64 s.toList a.1 b.1; unfold bitsI at this; rw [if_neg n1, if_pos n2] at this; exact this
            · unfold bitsI; rw [if_neg n1, if_pos n2]
          refine ev_neg n2 ?_
          by_cases n3 : s.toList = [120, 111, 114]
          · rw [if_pos (.inr (.inr n3))]
            refine ev_pos n3 (Ev.bind (make_ev ?_ (by unfold I64; omega)) (ev_const ?_))
            · have := bitsI_I64 s.toList a.1 b.1; unfold bitsI at this; rw [if_neg n1, if_neg n2] at this; exact this
            · unfold bitsI; rw [if_neg n1, if_neg n2]
          refine ev_neg n3 ?_
          rw [if_neg (show ¬ (s.toList = [97, 110, 100] ∨ s.toList = [111, 114] ∨ s.toList = [120, 111, 114]) from fun h => h.elim n1 fun h => h.elim n2 n3)]
          by_cases n4 : s.toList = [115, 104, 108]
          · rw [if_pos n4]
            refine ev_pos n4 ?_
            by_cases d1 : b.1 < 0
            · rw [if_neg (by omega)]; exact ev_pos d1 (ev_const rfl)
            refine ev_neg d1 ?_
            by_cases d2 : b.1 > 62
            · rw [if_neg (by omega)]; exact ev_pos d2 (ev_const rfl)
            refine ev_neg d2 ?_
            rw [if_pos (show 0 ≤ b.1 ∧ b.1 ≤ 62 by omega)]
            have em : IntKind.u64.wrap (mn b.1 31) = mn b.1 31 := by rw [wu64]; unfold mn; split <;> omega
            have es : (mn b.1 31).toNat ≤ 31 ∧ 0 ≤ mn b.1 31 := by unfold mn; split <;> omega
            have sh : shl .i64 a.1 (mn b.1 31) = a.1 * 2 ^ (mn b.1 31).toNat ∧ I64 (a.1 * 2 ^ (mn b.1 31).toNat) := by
              have p := two_pow_le (k := (mn b.1 31).toNat) (by omega)
              have q : (2 : Int) ^ (mn b.1 31).toNat ≤ 2147483648 := by
                have h2 : 2 ^ (mn b.1 31).toNat ≤ 2 ^ 31 := Nat.pow_le_pow_right (by omega) es.1
                have e : ((2 ^ (mn b.1 31).toNat : Nat) : Int) = (2 : Int) ^ (mn b.1 31).toNat := by rw [Int.natCast_pow]; rfl
                rw [← e]
                have e2 : (2 : Nat) ^ 31 = 2147483648 := by decide
                omega
              have mb := mul_bound (x := a.1) (y := 2 ^ (mn b.1 31).toNat) (A := 1073741824) (B := 2147483648) (by omega) (by omega) (by omega) (by omega)
              have hI : I64 (a.1 * 2 ^ (mn b.1 31).toNat) := by unfold I64; omega
              refine ⟨?_, hI⟩
              unfold shl
              rw [show min (mn b.1 31).toNat (IntKind.bits .i64) = (mn b.1 31).toNat from Nat.min_eq_left (by simp [IntKind.bits]; omega), i64wrap hI]
            by_cases d3 : a.1 = 0
            · refine ev_pos d3 ?_
              rw [em, sh.1]
              refine ev_pos es.2 (Ev.bind (make_ev sh.2 (by unfold I64; omega)) (ev_const ?_))
              rw [d3, Int.zero_mul, Int.zero_mul]
            · refine ev_neg d3 ?_
              by_cases d4 : b.1 > 31
              · refine ev_pos d4 (ev_const ?_)
                rw [mk_far (far_pow d3 (by omega))]
              · refine ev_neg d4 ?_
                rw [em, sh.1]
                refine ev_pos es.2 (Ev.bind (make_ev sh.2 (by unfold I64; omega)) (ev_const ?_))
                have : mn b.1 31 = b.1 := by unfold mn; split <;> omega
                rw [this]
          · rw [if_neg n4]
            refine ev_neg n4 ?_
            by_cases n5 : s.toList = [115, 104, 114]
            · rw [if_pos n5]
              refine ev_pos n5 ?_
              by_cases d1 : b.1 ≥ 0
              · refine ev_pos d1 ?_
                by_cases d2 : b.1 ≤ 62
                · rw [if_pos ⟨d1, d2⟩]
                  refine ev_pos d2 ?_
                  have em : IntKind.u64.wrap b.1 = b.1 := by rw [wu64]; omega
                  rw [em]
                  have p := two_pow_le (k := b.1.toNat) (by omega)
                  have sh : shr .i64 a.1 b.1 = a.1 / 2 ^ b.1.toNat := by
                    unfold shr
                    rw [show min b.1.toNat (IntKind.bits .i64) = b.1.toNat from Nat.min_eq_left (by simp [IntKind.bits]; omega)]
                  rw [sh]
                  have hI : I64 (a.1 / 2 ^ b.1.toNat) := by
                    have h1 : a.1 / 2 ^ b.1.toNat ≤ 1073741824 := by
                      by_cases h : 0 ≤ a.1
                      · exact Int.le_trans (Int.ediv_le_self _ h) ba.2.2.2
                      · have := Int.ediv_neg_of_neg_of_pos (a := a.1) (b := 2 ^ b.1.toNat) (by omega) (by omega)
                        omega
                    have h2 : -1073741824 ≤ a.1 / 2 ^ b.1.toNat := by
                      rw [Int.le_ediv_iff_mul_le (by omega)]
                      have : (-1073741824 : Int) * 2 ^ b.1.toNat ≤ -1073741824 * 1 := Int.mul_le_mul_of_nonpos_left (by omega) p.1
                      omega
                    unfold I64
                    omega
                  exact ev_pos (by omega) (Ev.bind (make_ev hI (by unfold I64; omega)) (ev_const rfl))
                · rw [if_neg (by omega)]; exact ev_neg d2 (ev_const rfl)
              · rw [if_neg (by omega)]; exact ev_neg d1 (ev_const rfl)
            · rw [if_neg n5]; exact ev_neg n5 (ev_const rfl)
        · rw [show (b.2 != 1) = true by simpa using c4]
          unfold bitsQ
          rw [if_neg (fun h => c4 h.2.2.2)]
          exact bits_j0none s a b
      · unfold bitsQ
        rw [if_neg (fun h => c3 h.2.2.1)]
        exact ev_neg c3 (bits_j0none s a b)
    · unfold bitsQ
      rw [if_neg (fun h => c2 h.2.1)]
      exact ev_neg c2 (bits_j0none s a b)
  · unfold bitsQ
    rw [if_neg (fun h => c1 h.1)]
    exact ev_neg c1 (bits_j0none s a b)
theorem rmul_ev {a b : Q} (ha : I64Q a) (hb : I64Q b) : Ev (fun k => serinetteref01_Mul.f k a.1 a.2 b.1 b.2) (mulQ a b) := by
  unfold serinetteref01_Mul.f mulQ
  refine Ev.bind (rboth_ev ha hb) ?_
  by_cases c : okQ a = true
  · rw [if_pos c]
    by_cases c2 : okQ b = true
    · rw [if_pos c2]
      have m := okQ_mul c c2
      rw [w64 (n := a.1 * b.1) (by unfold I64; omega), w64 (n := a.2 * b.2) (by unfold I64; omega)]
      exact ev_pos (by rw [c, c2]; rfl) (Ev.bind (rmake_ev (by unfold I64; omega) (by unfold I64; omega)) (ev_const rfl))
    · rw [if_neg c2]; exact ev_neg (by rw [c]; simpa using c2) (ev_const rfl)
  · rw [if_neg c]; exact ev_neg (by simp [c]) (ev_const rfl)
theorem mk1_double {n : Int} : mulQ (mk n 1) (2, 1) = mk (n * 2) 1 := by
  by_cases c : -1073741824 ≤ n ∧ n ≤ 1073741824
  · rw [mk_whole c.1 c.2]
    unfold mulQ
    rw [if_pos (okQ_whole c.1 c.2), if_pos (okQ_whole (by omega) (by omega))]
    rfl
  · rw [mk_far (show 1073741824 < n.natAbs by omega), mk_far (show 1073741824 < (n * 2).natAbs by omega)]
    rfl
theorem rbits_l0 {a b : Q} (hb : 0 ≤ b.1 ∧ b.1 ≤ 62) : ∀ (d i : Nat), (i : Int) + d = b.1 →
    Ev (fun k => serinetteref01_Bits.l0 k (i : Int) b.1 b.2 (mk (a.1 * 2 ^ i) 1).1 (mk (a.1 * 2 ^ i) 1).2) (mk (a.1 * 2 ^ b.1.toNat) 1) := by
  intro d
  induction d with
  | zero =>
    intro i hi
    refine Ev.step (fun k => serinetteref01_Bits.l0.eq_2 ..) ?_
    have : b.1.toNat = i := by omega
    rw [this]
    exact ev_neg (by omega) (ev_const rfl)
  | succ d ih =>
    intro i hi
    refine Ev.step (fun k => serinetteref01_Bits.l0.eq_2 ..) ?_
    refine ev_pos (by omega) (Ev.bind (rwhole_ev (by unfold I64; omega)) ?_)
    rw [mk_whole (n := 2) (by omega) (by omega)]
    refine Ev.bind (rmul_ev (a := mk (a.1 * 2 ^ i) 1) (b := (2, 1)) (mk_I64 _ _) (by unfold I64Q I64; simp)) ?_
    rw [mk1_double, w64 (n := (i : Int) + 1) (by unfold I64; omega), Int.mul_assoc, ← Int.pow_succ]
    exact ih (i + 1) (by omega)
theorem ediv_pow_succ (n : Int) (i : Nat) : n / 2 ^ i / 2 = n / 2 ^ (i + 1) := by
  have p : (0 : Int) < 2 ^ i := Int.pow_pos (by omega)
  rw [Int.pow_succ, Int.ediv_ediv, if_neg (fun h => by omega), Int.sub_zero]
theorem ediv_small {n : Int} (h0 : -1073741824 ≤ n) (h1 : n ≤ 1073741824) (i : Nat) : -1073741824 ≤ n / 2 ^ i ∧ n / 2 ^ i ≤ 1073741824 := by
  have p : (0 : Int) < 2 ^ i := Int.pow_pos (by omega)
  constructor
  · rw [Int.le_ediv_iff_mul_le p]
    have : (-1073741824 : Int) * 2 ^ i ≤ -1073741824 * 1 := Int.mul_le_mul_of_nonpos_left (by omega) (by omega)
    omega
  · by_cases h : 0 ≤ n
    · exact Int.le_trans (Int.ediv_le_self _ h) h1
    · have := Int.ediv_neg_of_neg_of_pos (a := n) (b := 2 ^ i) (by omega) p
      omega
theorem rbits_l1 {a b : Q} (h0 : -1073741824 ≤ a.1) (h1 : a.1 ≤ 1073741824) (hb : 0 ≤ b.1 ∧ b.1 ≤ 62) : ∀ (d i : Nat), (i : Int) + d = b.1 →
    Ev (fun k => serinetteref01_Bits.l1 k (a.1 / 2 ^ i) (i : Int) b.1 b.2) (mk (a.1 / 2 ^ b.1.toNat) 1) := by
  intro d
  induction d with
  | zero =>
    intro i hi
    refine Ev.step (fun k => serinetteref01_Bits.l1.eq_2 ..) ?_
    have : b.1.toNat = i := by omega
    rw [this]
    have s := ediv_small h0 h1 i
    exact ev_neg (by omega) (Ev.bind (rwhole_ev (by unfold I64; omega)) (ev_const rfl))
  | succ d ih =>
    intro i hi
    refine Ev.step (fun k => serinetteref01_Bits.l1.eq_2 ..) ?_
    have s := ediv_small h0 h1 i
    refine ev_pos (by omega) (ev_bind (floordiv_is (by unfold I64; omega) (by omega)) ?_)
    rw [ediv_pow_succ, w64 (n := (i : Int) + 1) (by unfold I64; omega)]
    exact ih (i + 1) (by omega)
theorem rbits_j0none (s : ByteArray) (a b : Q) : Ev (fun k => serinetteref01_Bits.j0 k s true a.1 a.2 b.1 b.2) (0, 0) := by
  refine Ev.step (fun k => serinetteref01_Bits.j0.eq_2 ..) ?_
  exact ev_pos rfl (ev_const rfl)
theorem rbits_j1logic (s : ByteArray) {a b : Q} (ha : okQ a = true) (hb : okQ b = true) (hs : s.toList = [97, 110, 100] ∨ s.toList = [111, 114] ∨ s.toList = [120, 111, 114]) :
    Ev (fun k => serinetteref01_Bits.j1 k s s true a.1 a.2 b.1 b.2) (mk (bitsI s.toList a.1 b.1) 1) := by
  have ba := okQ_bounds ha
  have bb := okQ_bounds hb
  refine Ev.step (fun k => serinetteref01_Bits.j1.eq_2 ..) (ev_pos rfl ?_)
  have bd := bitsI_bounds s.toList (a := a.1) (b := b.1) (by omega) (by omega) (by omega) (by omega)
  refine Ev.bind (logic_ev s (R := bitsI s.toList a.1 b.1) (by unfold I64; omega) (by unfold I64; omega) bd.1 bd.2 (fun k _ => bitsI_dg s.toList (by unfold I64; omega) (by unfold I64; omega) k)) ?_
  exact Ev.bind (rwhole_ev (by unfold I64; omega)) (ev_const rfl)
theorem rbits_j1shift (s : ByteArray) {a b : Q} (ha : okQ a = true) (hb : okQ b = true) (ha1 : a.2 = 1) :
    Ev (fun k => serinetteref01_Bits.j1 k s s false a.1 a.2 b.1 b.2) (if s.toList = [115, 104, 108] then (if 0 ≤ b.1 ∧ b.1 ≤ 62 then mk (a.1 * 2 ^ b.1.toNat) 1 else (0, 0)) else
     if s.toList = [115, 104, 114] then (if 0 ≤ b.1 ∧ b.1 ≤ 62 then mk (a.1 / 2 ^ b.1.toNat) 1 else (0, 0)) else (0, 0)) := by
  have ba := okQ_bounds ha
  refine Ev.step (fun k => serinetteref01_Bits.j1.eq_2 ..) (ev_neg (by decide) ?_)
  refine ev_ite (fun n4 => ?_) (fun n4 => ev_ite (fun n5 => ?_) (fun n5 => ev_const rfl))
  · have none : Ev (fun k => serinetteref01_Bits.j2 k true a.1 a.2 b.1 b.2) (0, 0) := by
      refine Ev.step (fun k => serinetteref01_Bits.j2.eq_2 ..) (ev_pos rfl (ev_const rfl))
    by_cases d1 : b.1 < 0
    · rw [if_neg (show ¬ (0 ≤ b.1 ∧ b.1 ≤ 62) by omega)]; exact ev_pos d1 none
    · refine ev_neg d1 ?_
      by_cases d2 : b.1 > 62
      · rw [if_neg (show ¬ (0 ≤ b.1 ∧ b.1 ≤ 62) by omega), decide_eq_true d2]; exact none
      · rw [if_pos (show 0 ≤ b.1 ∧ b.1 ≤ 62 by omega), decide_eq_false d2]
        refine Ev.step (fun k => serinetteref01_Bits.j2.eq_2 ..) (ev_neg (by decide) ?_)
        have := rbits_l0 (a := a) (b := b) (by omega) b.1.toNat 0 (by omega)
        rw [Int.pow_zero, Int.mul_one, mk_whole (by omega) (by omega)] at this
        rw [ha1]
        exact this
  · have none : Ev (fun k => serinetteref01_Bits.j4 k true a.1 a.2 b.1 b.2) (0, 0) := by
      refine Ev.step (fun k => serinetteref01_Bits.j4.eq_2 ..) (ev_pos rfl (ev_const rfl))
    by_cases d1 : b.1 < 0
    · rw [if_neg (show ¬ (0 ≤ b.1 ∧ b.1 ≤ 62) by omega)]; exact ev_pos d1 none
    · refine ev_neg d1 ?_
      by_cases d2 : b.1 > 62
      · rw [if_neg (show ¬ (0 ≤ b.1 ∧ b.1 ≤ 62) by omega), decide_eq_true d2]; exact none
      · rw [if_pos (show 0 ≤ b.1 ∧ b.1 ≤ 62 by omega), decide_eq_false d2]
        refine Ev.step (fun k => serinetteref01_Bits.j4.eq_2 ..) (ev_neg (by decide) ?_)
        have := rbits_l1 (a := a) (b := b) (by omega) (by omega) (by omega) b.1.toNat 0 (by omega)
        rw [Int.pow_zero, Int.ediv_one] at this
        exact this
theorem rbits_ev (s : ByteArray) {a b : Q} (ha : I64Q a) (hb : I64Q b) : Ev (fun k => serinetteref01_Bits.f k s a.1 a.2 b.1 b.2) (bitsQ s.toList a b) := by
  unfold serinetteref01_Bits.f
  refine Ev.bind (rboth_ev ha hb) ?_
  by_cases c1 : okQ a = true ∧ okQ b = true
  · refine ev_pos (by rw [c1.1, c1.2]; rfl) ?_
    by_cases c3 : a.2 = 1
    · refine ev_pos c3 ?_
      by_cases c4 : b.2 = 1
      · rw [show (b.2 != 1) = false by simp [c4]]
        unfold bitsQ
        rw [if_pos ⟨c1.1, c1.2, c3, c4⟩]
        refine Ev.step (fun k => serinetteref01_Bits.j0.eq_2 ..) (ev_neg (by decide) ?_)
        by_cases n1 : s.toList = [97, 110, 100]
        · rw [if_pos (.inl n1), show (s.toList == [97, 110, 100]) = true by simpa using n1]
          exact ev_pos n1 (rbits_j1logic s c1.1 c1.2 (.inl n1))
        refine ev_neg n1 ?_
        by_cases n2 : s.toList = [111, 114]
        · rw [if_pos (.inr (.inl n2)), show (s.toList == [111, 114]) = true by simpa using n2]
          exact ev_pos n2 (rbits_j1logic s c1.1 c1.2 (.inr (.inl n2)))
        refine ev_neg n2 ?_
        by_cases n3 : s.toList = [120, 111, 114]
        · rw [if_pos (.inr (.inr n3)), show (s.toList == [120, 111, 114]) = true by simpa using n3]
          exact rbits_j1logic s c1.1 c1.2 (.inr (.inr n3))
        · rw [if_neg (show ¬ (s.toList = [97, 110, 100] ∨ s.toList = [111, 114] ∨ s.toList = [120, 111, 114]) from fun h => h.elim n1 fun h => h.elim n2 n3), show (s.toList == [120, 111, 114]) = false by simpa using n3]
          exact rbits_j1shift s c1.1 c1.2 c3
      · rw [show (b.2 != 1) = true by simpa using c4]
        unfold bitsQ
        rw [if_neg (fun h => c4 h.2.2.2)]
        exact rbits_j0none s a b
    · unfold bitsQ
      rw [if_neg (fun h => c3 h.2.2.1)]
      exact ev_neg c3 (rbits_j0none s a b)
  · unfold bitsQ
    rw [if_neg (fun h => c1 ⟨h.1, h.2.1⟩)]
    refine ev_neg ?_ (rbits_j0none s a b)
    intro h
    rw [Bool.and_eq_true] at h
    exact c1 h
theorem tests_l1 {a b : Q} (ha : I64Q a) (hb : I64Q b) (l : List ByteArray) (hl : l.length ≤ 100) : ∀ (d i : Nat), i + d = l.length →
    Ev (fun k => serinettelaw01_NumberTests.l1 k l (l.length : Int) (i : Int) a.1 a.2 b.1 b.2) true := by
  intro d
  induction d with
  | zero =>
    intro i hi
    refine Ev.step (fun k => serinettelaw01_NumberTests.l1.eq_2 ..) ?_
    exact ev_neg (by omega) (Ev.bind awake_ev (ev_const rfl))
  | succ d ih =>
    intro i hi
    refine Ev.step (fun k => serinettelaw01_NumberTests.l1.eq_2 ..) ?_
    refine ev_pos (by omega) (ev_pos (by omega) (ev_pos (by omega) (Ev.bind (bits_ev _ ha hb) (Ev.bind (rbits_ev _ ha hb) (ev_neg (by simp) ?_)))))
    rw [w64 (n := (i : Int) + 1) (by unfold I64; omega)]
    exact ih (i + 1) (by omega)
theorem tests_l0 {a b : Q} (ha : I64Q a) (hb : I64Q b) (s : ByteArray) (l : List ByteArray) (hl : l.length ≤ 100) : ∀ (d i : Nat), i + d = l.length →
    Ev (fun k => serinettelaw01_NumberTests.l0 k s l (l.length : Int) (i : Int) a.1 a.2 b.1 b.2) true := by
  intro d
  induction d with
  | zero =>
    intro i hi
    refine Ev.step (fun k => serinettelaw01_NumberTests.l0.eq_2 ..) ?_
    refine ev_neg (by omega) (ev_bind rfl ?_)
    exact tests_l1 ha hb _ (by simp) _ 0 (by simp; rfl)
  | succ d ih =>
    intro i hi
    refine Ev.step (fun k => serinettelaw01_NumberTests.l0.eq_2 ..) ?_
    refine ev_pos (by omega) (ev_pos (by omega) (ev_pos (by omega) (Ev.bind (test_ev _ ha hb) (Ev.bind (rtest_ev _ ha hb) (ev_neg (by simp) ?_)))))
    rw [w64 (n := (i : Int) + 1) (by unfold I64; omega)]
    exact ih (i + 1) (by omega)
/-- The law, as plain Lean. -/
theorem pure (s : ByteArray) {a b : Q} (ha : I64Q a) (hb : I64Q b) : ∃ k, serinettelaw01_NumberTests.f k s a.1 a.2 b.1 b.2 = some true := by
  refine Ev.rounds ?_
  unfold serinettelaw01_NumberTests.f
  exact ev_bind rfl (tests_l0 ha hb s _ (by simp) _ 0 (by simp; rfl))

end Go.Proofs.Ytgecbfemlpmpeaa.PNumberTests
