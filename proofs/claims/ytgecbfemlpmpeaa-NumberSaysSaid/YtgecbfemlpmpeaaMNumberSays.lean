/- What the functions that NumberSays reaches come to, and the law itself, without Go and memory. -/
import Derived.Test.YtgecbfemlpmpeaaSNumberSays
import Derived.Test.YtgecbfemlpmpeaaLaws
namespace Go.Proofs.Ytgecbfemlpmpeaa.SNumberSays
open Go.RowKit Go.Proofs.Ytgecbfemlpmpeaa.Wd.PrintWords Go.Proofs.Ytgecbfemlpmpeaa.Plain
set_option linter.unusedVariables false
set_option linter.unusedSimpArgs false

theorem w64 {n : Int} (h : I64 n) : wrap64 n = n := by unfold I64 at h; unfold wrap64; omega
theorem wu64 (n : Int) : IntKind.u64.wrap n = n % 18446744073709551616 := by simp [IntKind.wrap, IntKind.bits, IntKind.signed]
theorem ev_pos {α : Type} {c : Prop} [Decidable c] {f g : Nat → Option α} {r : α} (h : c) (k : Ev f r) : Ev (fun n => if c then f n else g n) r := by simpa only [if_pos h] using k
theorem ev_neg {α : Type} {c : Prop} [Decidable c] {f g : Nat → Option α} {r : α} (h : ¬ c) (k : Ev g r) : Ev (fun n => if c then f n else g n) r := by simpa only [if_neg h] using k
theorem ev_const {α : Type} {x : Option α} {r : α} (h : x = some r) : Ev (fun _ => x) r := ⟨0, fun _ _ => h⟩
theorem ev_bind {α β : Type} {x : Option α} {f : Nat → α → Option β} {a : α} {r : β} (h : x = some a) (k : Ev (fun n => f n a) r) : Ev (fun n => x.bind (f n)) r := by
  subst h
  exact k
theorem i64_of {n : Int} (h : (Lit.int .i64 n).wf = true) : I64 n := by
  simp [Lit.wf] at h
  exact h
theorem ev_eq {α : Type} {f : Nat → Option α} {r s : α} (h : Ev f r) (e : r = s) : Ev f s := e ▸ h
theorem ev_ite {α : Type} {c : Prop} [Decidable c] {f g : Nat → Option α} {r s : α} (h : c → Ev f r) (k : ¬ c → Ev g s) : Ev (fun n => if c then f n else g n) (if c then r else s) := by
  by_cases e : c
  · rw [if_pos e]; exact ev_pos e (h e)
  · rw [if_neg e]; exact ev_neg e (k e)
theorem size_is {n : Int} (h : I64 n) : ratio_size.f n = some (n.natAbs : Int) := by
  unfold I64 at h
  unfold ratio_size.f
  simp only [wu64]
  split
  · congr 1; omega
  · congr 1; omega
theorem divisor_l0 : ∀ (b a : Nat), Ev (fun k => ratio_divisor.l0 k (a : Int) (b : Int)) ((Nat.gcd a b : Nat) : Int) := by
  intro b
  induction b using Nat.strongRecOn with
  | ind b ih =>
    intro a
    refine Ev.step (f := fun k => if (b : Int) = 0 then (some (a : Int)) else (ratio_divisor.l0 k (b : Int) (Int.tmod (a : Int) (b : Int)))) (fun k => by simp only [ratio_divisor.l0]) ?_
    by_cases hb : b = 0
    · subst hb
      refine ev_pos rfl (ev_const ?_)
      simp
    · refine ev_neg (by omega) ?_
      have h := ih (a % b) (Nat.mod_lt _ (by omega)) b
      rw [Int.ofNat_tmod] at h
      rw [Nat.gcd_comm, Nat.gcd_rec, Nat.gcd_comm]
      exact h
theorem divisor_ev (a b : Nat) : Ev (fun k => ratio_divisor.f k (a : Int) (b : Int)) ((Nat.gcd a b : Nat) : Int) := divisor_l0 b a
theorem is_ev {a : Q} (h : I64Q a) : Ev (fun k => ratio_Is.f k a.1 a.2) (okQ a) := by
  obtain ⟨n, d⟩ := a
  obtain ⟨h1, h2⟩ := h
  simp only at h1 h2
  show Ev (fun k => ratio_Is.f k n d) (isQ n d)
  unfold ratio_Is.f
  by_cases c1 : d ≥ 1
  · refine ev_pos c1 ?_
    by_cases c2 : d ≤ 1073741824
    · refine ev_pos c2 ?_
      by_cases c3 : n ≥ (-1073741824)
      · refine ev_pos c3 ?_
        by_cases c4 : n ≤ 1073741824
        · refine ev_pos c4 (ev_bind (size_is h1) (ev_bind (size_is h2) (Ev.bind (divisor_ev n.natAbs d.natAbs) (ev_const ?_))))
          congr 1
          rw [Bool.eq_iff_iff, isQ_iff]
          simp only [beq_iff_eq]
          omega
        · exact ev_neg c4 (ev_const (by rw [isQ_false.2 (by omega)]))
      · exact ev_neg c3 (ev_const (by rw [isQ_false.2 (by omega)]))
    · exact ev_neg c2 (ev_const (by rw [isQ_false.2 (by omega)]))
  · exact ev_neg c1 (ev_const (by rw [isQ_false.2 (by omega)]))
theorem make_ev {n d : Int} (hn : I64 n) (hd : I64 d) : Ev (fun k => ratio_Make.f k n d) (mk n d) := by
  have hn' := hn
  have hd' := hd
  unfold I64 at hn' hd'
  unfold ratio_Make.f
  by_cases c : d = 0
  · subst c
    refine ev_pos rfl (ev_const ?_)
    rw [mk_zero_den]
  · refine ev_neg c (ev_bind (size_is hn) (ev_bind (size_is hd) (Ev.bind (divisor_ev n.natAbs d.natAbs) ?_)))
    obtain ⟨l1, l2, l3, l4⟩ := lowest n.natAbs d.natAbs (by omega)
    have hg := gcd_pos_of (n := n) c
    have e1 : (Int.tdiv (n.natAbs : Int) ((Nat.gcd n.natAbs d.natAbs : Nat) : Int)) = ((n.natAbs / Nat.gcd n.natAbs d.natAbs : Nat) : Int) := by rw [← Int.ofNat_tdiv]
    have e2 : (Int.tdiv (d.natAbs : Int) ((Nat.gcd n.natAbs d.natAbs : Nat) : Int)) = ((d.natAbs / Nat.gcd n.natAbs d.natAbs : Nat) : Int) := by rw [← Int.ofNat_tdiv]
    have b1 := Nat.div_le_self n.natAbs (Nat.gcd n.natAbs d.natAbs)
    have b2 := Nat.div_le_self d.natAbs (Nat.gcd n.natAbs d.natAbs)
    simp only [e1, e2]
    refine ev_neg (by omega) ?_
    unfold mk
    rw [if_neg c]
    clear l1 l3 l4
    generalize n.natAbs / Nat.gcd n.natAbs d.natAbs = x at *
    generalize d.natAbs / Nat.gcd n.natAbs d.natAbs = y at *
    have w1 : IntKind.u64.wrap (x : Int) = (x : Int) := by rw [wu64]; omega
    have w2 : IntKind.u64.wrap (y : Int) = (y : Int) := by rw [wu64]; omega
    simp only [w1, w2]
    have j : ∀ b : Bool, b = true → Ev (fun k => ratio_Make.j0 k n d (x : Int) (y : Int) b) (0, 0) := by
      intro b hb
      subst hb
      refine Ev.step (f := fun k => (if true = true then (some ((0 : Int), (0 : Int))) else (if ((decide (n < 0)) != (decide (d < 0))) = true then (some (wrap64 (-(wrap64 ((x : Int)))), wrap64 ((y : Int)))) else (some (wrap64 ((x : Int)), wrap64 ((y : Int))))))) (fun k => by simp only [ratio_Make.j0]) (ev_pos rfl (ev_const rfl))
    by_cases c1 : 1073741824 < x
    · rw [if_pos (Or.inl c1)]
      exact ev_pos (by omega) (j _ rfl)
    · refine ev_neg (by omega) ?_
      by_cases c2 : 1073741824 < y
      · rw [if_pos (Or.inr c2)]
        exact j _ (by simp; omega)
      · rw [if_neg (by omega)]
        have e : decide ((y : Int) > 1073741824) = false := by simp; omega
        simp only [e]
        clear w1 w2 e1 e2 j
        have hx : wrap64 (x : Int) = (x : Int) := w64 (by unfold I64; omega)
        have hy : wrap64 (y : Int) = (y : Int) := w64 (by unfold I64; omega)
        have hz : wrap64 (-(x : Int)) = -(x : Int) := w64 (n := -(x : Int)) (by unfold I64; omega)
        refine Ev.step (f := fun k => (if false = true then (some ((0 : Int), (0 : Int))) else (if ((decide (n < 0)) != (decide (d < 0))) = true then (some (wrap64 (-(wrap64 ((x : Int)))), wrap64 ((y : Int)))) else (some (wrap64 ((x : Int)), wrap64 ((y : Int))))))) (fun k => by simp only [ratio_Make.j0]) ?_
        simp only [hx, hy, hz]
        refine ev_neg (by decide) ?_
        by_cases k : n < 0 ↔ d < 0
        · rw [if_pos k]
          refine ev_neg ?_ (ev_const rfl)
          by_cases k1 : n < 0
          · simp [k1, k.1 k1]
          · simp [k1, show ¬ d < 0 from fun h => k1 (k.2 h)]
        · rw [if_neg k]
          refine ev_pos ?_ (ev_const rfl)
          by_cases k1 : n < 0 <;> by_cases k2 : d < 0 <;> simp [k1, k2] at k ⊢
theorem rdivisor_l0 : ∀ (b a : Nat), Ev (fun k => serinetteref01_Divisor.l0 k (a : Int) (b : Int)) ((Nat.gcd a b : Nat) : Int) := by
  intro b
  induction b using Nat.strongRecOn with
  | ind b ih =>
    intro a
    refine Ev.step (f := fun k => if (b : Int) = 0 then (some (a : Int)) else (serinetteref01_Divisor.l0 k (b : Int) (Int.tmod (a : Int) (b : Int)))) (fun k => by simp only [serinetteref01_Divisor.l0]) ?_
    by_cases hb : b = 0
    · subst hb
      refine ev_pos rfl (ev_const ?_)
      simp
    · refine ev_neg (by omega) ?_
      have h := ih (a % b) (Nat.mod_lt _ (by omega)) b
      rw [Int.ofNat_tmod] at h
      rw [Nat.gcd_comm, Nat.gcd_rec, Nat.gcd_comm]
      exact h
theorem rdivisor_ev {a b : Int} (ha : I64 a) (hb : I64 b) (ha' : a ≠ -9223372036854775808) (hb' : b ≠ -9223372036854775808) : Ev (fun k => serinetteref01_Divisor.f k a b) ((Nat.gcd a.natAbs b.natAbs : Nat) : Int) := by
  unfold I64 at ha hb
  have j1 : ∀ (x y : Int), x = (a.natAbs : Int) → y = (b.natAbs : Int) → Ev (fun k => serinetteref01_Divisor.j1 k x y) ((Nat.gcd a.natAbs b.natAbs : Nat) : Int) := by
    intro x y hx hy
    subst hx hy
    exact Ev.step (f := fun k => serinetteref01_Divisor.l0 k (a.natAbs : Int) (b.natAbs : Int)) (fun k => by simp only [serinetteref01_Divisor.j1]) (rdivisor_l0 _ _)
  have j0 : ∀ (x : Int), x = (a.natAbs : Int) → Ev (fun k => serinetteref01_Divisor.j0 k x b) ((Nat.gcd a.natAbs b.natAbs : Nat) : Int) := by
    intro x hx
    refine Ev.step (f := fun k => if b < 0 then (serinetteref01_Divisor.j1 k x (wrap64 (-b))) else (serinetteref01_Divisor.j1 k x b)) (fun k => by simp only [serinetteref01_Divisor.j0]) ?_
    by_cases c : b < 0
    · refine ev_pos c (j1 _ _ hx ?_)
      rw [w64 (by unfold I64; omega)]; omega
    · exact ev_neg c (j1 _ _ hx (by omega))
  unfold serinetteref01_Divisor.f
  by_cases c : a < 0
  · refine ev_pos c (j0 _ ?_)
    rw [w64 (by unfold I64; omega)]; omega
  · exact ev_neg c (j0 _ (by omega))
theorem ris_ev {a : Q} (h : I64Q a) : Ev (fun k => serinetteref01_Is.f k a.1 a.2) (okQ a) := by
  obtain ⟨n, d⟩ := a
  obtain ⟨h1, h2⟩ := h
  simp only at h1 h2
  show Ev (fun k => serinetteref01_Is.f k n d) (isQ n d)
  unfold serinetteref01_Is.f
  by_cases c1 : d ≥ 1
  · refine ev_pos c1 ?_
    by_cases c2 : d ≤ 1073741824
    · refine ev_pos c2 ?_
      by_cases c3 : n ≥ (-1073741824)
      · refine ev_pos c3 ?_
        by_cases c4 : n ≤ 1073741824
        · refine ev_pos c4 (Ev.bind (rdivisor_ev h1 h2 (by omega) (by omega)) (ev_const ?_))
          congr 1
          rw [Bool.eq_iff_iff, isQ_iff]
          simp only [beq_iff_eq]
          omega
        · exact ev_neg c4 (ev_const (by rw [isQ_false.2 (by omega)]))
      · exact ev_neg c3 (ev_const (by rw [isQ_false.2 (by omega)]))
    · exact ev_neg c2 (ev_const (by rw [isQ_false.2 (by omega)]))
  · exact ev_neg c1 (ev_const (by rw [isQ_false.2 (by omega)]))
theorem least_is {n : Int} (h : I64 n) : serinetteref01_least.f n = some (decide (n = -9223372036854775808)) := by
  unfold I64 at h
  unfold serinetteref01_least.f
  by_cases c : n = wrap64 (-n)
  · rw [if_pos c]
    unfold wrap64 at c
    congr 1
    rw [Bool.eq_iff_iff]
    simp
    omega
  · rw [if_neg c]
    unfold wrap64 at c
    congr 1
    symm
    simp
    omega
theorem rmake_j2 {n d : Int} (hn : I64 n) (hd : I64 d) (hn' : n ≠ -9223372036854775808) (c : 0 < d) : Ev (fun k => serinetteref01_Make.j2 k n d) (mk n d) := by
  refine Ev.step (f := fun k => (serinetteref01_Divisor.f k n d).bind fun t140 => (if t140 = 0 then (none) else ((serinetteref01_Is.f k (wrap64 (Int.tdiv n t140)) (wrap64 (Int.tdiv d t140))).bind fun t142 => (if t142 = true then (some (wrap64 (Int.tdiv n t140), wrap64 (Int.tdiv d t140))) else ((serinetteref01_None.f).bind fun bt143 => (some (bt143.1, bt143.2))))))) (fun k => by simp only [serinetteref01_Make.j2]) ?_
  refine Ev.bind (rdivisor_ev hn hd hn' (by omega)) ?_
  have hg := gcd_pos_of (n := n) (d := d) (by omega)
  obtain ⟨l1, l2, l3, l4⟩ := lowest n.natAbs d.natAbs (by omega)
  refine ev_neg (by omega) ?_
  unfold I64 at hn hd
  have b1 := Nat.div_le_self n.natAbs (Nat.gcd n.natAbs d.natAbs)
  have b2 := Nat.div_le_self d.natAbs (Nat.gcd n.natAbs d.natAbs)
  have e2 : Int.tdiv d ((Nat.gcd n.natAbs d.natAbs : Nat) : Int) = ((d.natAbs / Nat.gcd n.natAbs d.natAbs : Nat) : Int) := by
    rw [Int.ofNat_tdiv, show (d.natAbs : Int) = d by omega]
  have e1 : Int.tdiv n ((Nat.gcd n.natAbs d.natAbs : Nat) : Int) = if n < 0 then -((n.natAbs / Nat.gcd n.natAbs d.natAbs : Nat) : Int) else ((n.natAbs / Nat.gcd n.natAbs d.natAbs : Nat) : Int) := by
    split
    · rename_i hneg
      rw [Int.ofNat_tdiv, ← Int.neg_tdiv, show -(n.natAbs : Int) = n by omega]
    · rw [Int.ofNat_tdiv, show (n.natAbs : Int) = n by omega]
  have hv : ∀ v : Int, (v = ((n.natAbs / Nat.gcd n.natAbs d.natAbs : Nat) : Int) ∨ v = -((n.natAbs / Nat.gcd n.natAbs d.natAbs : Nat) : Int)) → I64 v ∧ v.natAbs = n.natAbs / Nat.gcd n.natAbs d.natAbs := by
    intro v h
    unfold I64
    clear l1 l2 l3 l4
    generalize n.natAbs / Nat.gcd n.natAbs d.natAbs = x at *
    omega
  have hv2 := hv (Int.tdiv n ((Nat.gcd n.natAbs d.natAbs : Nat) : Int)) (by rw [e1]; split <;> simp)
  have w1 : wrap64 (Int.tdiv n ((Nat.gcd n.natAbs d.natAbs : Nat) : Int)) = Int.tdiv n ((Nat.gcd n.natAbs d.natAbs : Nat) : Int) := w64 hv2.1
  have w2 : wrap64 (Int.tdiv d ((Nat.gcd n.natAbs d.natAbs : Nat) : Int)) = Int.tdiv d ((Nat.gcd n.natAbs d.natAbs : Nat) : Int) := w64 (by rw [e2]; unfold I64; omega)
  simp only [w1, w2]
  have hI : I64Q (Int.tdiv n ((Nat.gcd n.natAbs d.natAbs : Nat) : Int), Int.tdiv d ((Nat.gcd n.natAbs d.natAbs : Nat) : Int)) := by
    exact ⟨hv2.1, by simp only; rw [e2]; unfold I64; omega⟩
  refine Ev.bind (ris_ev hI) ?_
  have hval : okQ (Int.tdiv n ((Nat.gcd n.natAbs d.natAbs : Nat) : Int), Int.tdiv d ((Nat.gcd n.natAbs d.natAbs : Nat) : Int)) = decide (¬ (1073741824 < n.natAbs / Nat.gcd n.natAbs d.natAbs ∨ 1073741824 < d.natAbs / Nat.gcd n.natAbs d.natAbs)) := by
    unfold okQ
    simp only
    have q := hv2.2
    rw [Bool.eq_iff_iff, isQ_iff, hv2.2, e2, Int.natAbs_natCast, l1]
    simp only [decide_eq_true_eq, and_true]
    clear hI w1 w2 hv hv2 e1 e2 l1 l3 l4 b1
    generalize Int.tdiv n ((Nat.gcd n.natAbs d.natAbs : Nat) : Int) = v at *
    generalize n.natAbs / Nat.gcd n.natAbs d.natAbs = x at *
    generalize d.natAbs / Nat.gcd n.natAbs d.natAbs = y at *
    omega
  by_cases cc : 1073741824 < n.natAbs / Nat.gcd n.natAbs d.natAbs ∨ 1073741824 < d.natAbs / Nat.gcd n.natAbs d.natAbs
  · refine ev_neg (by rw [hval]; simp; omega) (ev_const ?_)
    unfold mk
    rw [if_neg (by omega), if_pos cc]
    rfl
  · refine ev_pos (by rw [hval]; simp; omega) (ev_const ?_)
    unfold mk
    rw [if_neg (by omega), if_neg cc, e1, e2]
    congr 2
    by_cases k : n < 0
    · rw [if_pos k, if_neg (by omega)]
    · rw [if_neg k, if_pos (by omega)]
theorem rmake_j1 {n d : Int} (hn : I64 n) (hd : I64 d) (hn' : n ≠ -9223372036854775808) (hd' : d ≠ -9223372036854775808) (c : d ≠ 0) : Ev (fun k => serinetteref01_Make.j1 k n d false) (mk n d) := by
  refine Ev.step (f := fun k => if false = true then (if (Int.tmod n 2) = 0 then (if (Int.tmod d 2) = 0 then (serinetteref01_Make.l0 k (wrap64 (Int.tdiv n 2)) (wrap64 (Int.tdiv d 2))) else ((serinetteref01_None.f).bind fun bt136 => (some (bt136.1, bt136.2)))) else ((serinetteref01_None.f).bind fun bt138 => (some (bt138.1, bt138.2)))) else (if d < 0 then (serinetteref01_Make.j2 k (wrap64 (-n)) (wrap64 (-d))) else (serinetteref01_Make.j2 k n d))) (fun k => by simp only [serinetteref01_Make.j1]) ?_
  refine ev_neg (by decide) ?_
  unfold I64 at hn hd
  by_cases k : d < 0
  · refine ev_pos k ?_
    rw [w64 (n := -n) (by unfold I64; omega), w64 (n := -d) (by unfold I64; omega)]
    rw [mk_cross (n := n) (d := d) (n' := -n) (d' := -d) c (by omega) (by rw [Int.mul_neg, Int.neg_mul])]
    exact rmake_j2 (by unfold I64; omega) (by unfold I64; omega) (by omega) (by omega)
  · exact ev_neg k (rmake_j2 hn hd hn' (by omega))
theorem rmake_l0 {n d : Int} (hn : I64 n) (hd : I64 d) (hn' : n ≠ -9223372036854775808) (hd' : d ≠ -9223372036854775808) (c : d ≠ 0) : Ev (fun k => serinetteref01_Make.l0 k n d) (mk n d) := by
  refine Ev.step (f := fun k => (serinetteref01_least.f n).bind fun t134 => (if t134 = true then (serinetteref01_Make.j1 k n d true) else ((serinetteref01_least.f d).bind fun t135 => (serinetteref01_Make.j1 k n d t135)))) (fun k => by simp only [serinetteref01_Make.l0]) ?_
  refine ev_bind (least_is hn) (ev_neg (by simpa using hn') (ev_bind (least_is hd) ?_))
  simp only [decide_eq_false hd']
  exact rmake_j1 hn hd hn' hd' c
theorem gcd_pow2 (d : Nat) (h : d % 2 = 1) : Nat.gcd 9223372036854775808 d = 1 := by
  have h2 : Nat.Coprime 2 d := by
    rw [Nat.coprime_iff_gcd_eq_one, Nat.gcd_rec, h]; decide
  have := Nat.Coprime.pow_left 63 h2
  exact this
theorem rmake_ev {n d : Int} (hn : I64 n) (hd : I64 d) : Ev (fun k => serinetteref01_Make.f k n d) (mk n d) := by
  unfold serinetteref01_Make.f
  by_cases c : d = 0
  · subst c
    refine ev_pos rfl (ev_const ?_)
    rw [mk_zero_den]
    rfl
  · refine ev_neg c ?_
    by_cases k : n ≠ -9223372036854775808 ∧ d ≠ -9223372036854775808
    · exact rmake_l0 hn hd k.1 k.2 c
    · have hn' := hn
      have hd' := hd
      unfold I64 at hn' hd'
      have j1 : Ev (fun k => serinetteref01_Make.j1 k n d true) (mk n d) := by
        refine Ev.step (f := fun k => if true = true then (if (Int.tmod n 2) = 0 then (if (Int.tmod d 2) = 0 then (serinetteref01_Make.l0 k (wrap64 (Int.tdiv n 2)) (wrap64 (Int.tdiv d 2))) else ((serinetteref01_None.f).bind fun bt136 => (some (bt136.1, bt136.2)))) else ((serinetteref01_None.f).bind fun bt138 => (some (bt138.1, bt138.2)))) else (if d < 0 then (serinetteref01_Make.j2 k (wrap64 (-n)) (wrap64 (-d))) else (serinetteref01_Make.j2 k n d))) (fun k => by simp only [serinetteref01_Make.j1]) ?_
        refine ev_pos rfl ?_
        have tm : ∀ m : Int, Int.tmod m 2 = 0 ↔ m % 2 = 0 := fun m => by
          rw [← Int.dvd_iff_tmod_eq_zero, ← Int.dvd_iff_emod_eq_zero]
        by_cases c1 : Int.tmod n 2 = 0
        · refine ev_pos c1 ?_
          rw [tm] at c1
          by_cases c2 : Int.tmod d 2 = 0
          · refine ev_pos c2 ?_
            rw [tm] at c2
            have t1 : Int.tdiv n 2 = n / 2 := Int.tdiv_eq_ediv_of_dvd (Int.dvd_of_emod_eq_zero c1)
            have t2 : Int.tdiv d 2 = d / 2 := Int.tdiv_eq_ediv_of_dvd (Int.dvd_of_emod_eq_zero c2)
            rw [t1, t2, w64 (n := n / 2) (by unfold I64; omega), w64 (n := d / 2) (by unfold I64; omega)]
            rw [mk_cross (n := n) (d := d) (n' := n / 2) (d' := d / 2) c (by omega) (by
              obtain ⟨x, hx⟩ := Int.dvd_of_emod_eq_zero c1
              obtain ⟨y, hy⟩ := Int.dvd_of_emod_eq_zero c2
              rw [show n / 2 = x by omega, show d / 2 = y by omega, hx, hy, Int.mul_comm 2 x, Int.mul_assoc])]
            exact rmake_l0 (by unfold I64; omega) (by unfold I64; omega) (by omega) (by omega) (by omega)
          · refine ev_neg c2 (ev_const ?_)
            rw [tm] at c2
            have hN : n = -9223372036854775808 := by omega
            subst hN
            unfold mk
            rw [if_neg c, if_pos (Or.inl (by
              rw [show Int.natAbs (-9223372036854775808) = 9223372036854775808 from rfl, gcd_pow2 _ (by omega)]; omega))]
            rfl
        · refine ev_neg c1 (ev_const ?_)
          rw [tm] at c1
          have hD : d = -9223372036854775808 := by omega
          subst hD
          unfold mk
          rw [if_neg c, if_pos (Or.inr (by
            rw [show Int.natAbs (-9223372036854775808) = 9223372036854775808 from rfl, Nat.gcd_comm, gcd_pow2 _ (by omega)]; omega))]
          rfl
      refine Ev.step (f := fun k => (serinetteref01_least.f n).bind fun t134 => (if t134 = true then (serinetteref01_Make.j1 k n d true) else ((serinetteref01_least.f d).bind fun t135 => (serinetteref01_Make.j1 k n d t135)))) (fun k => by simp only [serinetteref01_Make.l0]) ?_
      refine ev_bind (least_is hn) ?_
      by_cases e : n = -9223372036854775808
      · exact ev_pos (by simpa using e) j1
      · refine ev_neg (by simpa using e) (ev_bind (least_is hd) ?_)
        have e2 : d = -9223372036854775808 := by
          by_cases e2 : d = -9223372036854775808
          · exact e2
          · exact absurd ⟨e, e2⟩ k
        simp only [decide_eq_true e2]
        exact j1
theorem rclean_ev {a : Q} (h : I64Q a) : Ev (fun k => serinetteref01_Clean.f k a.1 a.2) (cleanQ a) := by
  unfold serinetteref01_Clean.f cleanQ
  refine Ev.bind (ris_ev h) ?_
  by_cases c : okQ a = true
  · exact ev_pos c (ev_const (by rw [if_pos c]))
  · exact ev_neg c (ev_const (by rw [if_neg c]; rfl))
theorem rboth_ev {a b : Q} (ha : I64Q a) (hb : I64Q b) : Ev (fun k => serinetteref01_both.f k a.1 a.2 b.1 b.2) (okQ a && okQ b) := by
  unfold serinetteref01_both.f
  refine Ev.bind (ris_ev ha) ?_
  by_cases c : okQ a = true
  · refine ev_pos c (Ev.bind (ris_ev hb) (ev_const ?_))
    rw [c]; rfl
  · refine ev_neg c (ev_const ?_)
    rw [Bool.not_eq_true] at c
    rw [c]; rfl
theorem mul_bound {x y A B : Int} (h1 : -A ≤ x) (h2 : x ≤ A) (h3 : -B ≤ y) (h4 : y ≤ B) : -(A * B) ≤ x * y ∧ x * y ≤ A * B := by
  have hx : x.natAbs ≤ A.toNat := by omega
  have hy : y.natAbs ≤ B.toNat := by omega
  have h := Nat.mul_le_mul hx hy
  rw [← Int.natAbs_mul] at h
  have e : ((A.toNat * B.toNat : Nat) : Int) = A * B := by
    rw [Int.natCast_mul, Int.toNat_of_nonneg (by omega), Int.toNat_of_nonneg (by omega)]
  omega
theorem okQ_mul {a b : Q} (ha : okQ a = true) (hb : okQ b = true) :
    (-1152921504606846976 ≤ a.1 * b.2 ∧ a.1 * b.2 ≤ 1152921504606846976) ∧ (-1152921504606846976 ≤ b.1 * a.2 ∧ b.1 * a.2 ≤ 1152921504606846976) ∧ (-1152921504606846976 ≤ a.2 * b.2 ∧ a.2 * b.2 ≤ 1152921504606846976) ∧ (-1152921504606846976 ≤ a.1 * b.1 ∧ a.1 * b.1 ≤ 1152921504606846976) ∧ (-1152921504606846976 ≤ a.2 * b.1 ∧ a.2 * b.1 ≤ 1152921504606846976) := by
  have h1 := okQ_bounds ha
  have h2 := okQ_bounds hb
  exact ⟨mul_bound (A := 1073741824) (B := 1073741824) (by omega) (by omega) (by omega) (by omega), mul_bound (A := 1073741824) (B := 1073741824) (by omega) (by omega) (by omega) (by omega), mul_bound (A := 1073741824) (B := 1073741824) (by omega) (by omega) (by omega) (by omega), mul_bound (A := 1073741824) (B := 1073741824) (by omega) (by omega) (by omega) (by omega), mul_bound (A := 1073741824) (B := 1073741824) (by omega) (by omega) (by omega) (by omega)⟩
theorem add_ev {a b : Q} (ha : I64Q a) (hb : I64Q b) : Ev (fun k => ratio_Add.f k a.1 a.2 b.1 b.2) (addQ a b) := by
  unfold ratio_Add.f addQ
  refine Ev.bind (is_ev ha) ?_
  by_cases c : okQ a = true
  · rw [if_pos c]
    refine ev_pos c (Ev.bind (is_ev hb) ?_)
    by_cases c2 : okQ b = true
    · rw [if_pos c2]
      have m := okQ_mul c c2
      rw [w64 (n := a.1 * b.2) (by unfold I64; omega), w64 (n := b.1 * a.2) (by unfold I64; omega), w64 (n := a.1 * b.2 + b.1 * a.2) (by unfold I64; omega), w64 (n := a.2 * b.2) (by unfold I64; omega)]
      exact ev_pos c2 (Ev.bind (make_ev (by unfold I64; omega) (by unfold I64; omega)) (ev_const rfl))
    · rw [if_neg c2]; exact ev_neg c2 (ev_const rfl)
  · rw [if_neg c]; exact ev_neg c (ev_const rfl)
theorem radd_ev {a b : Q} (ha : I64Q a) (hb : I64Q b) : Ev (fun k => serinetteref01_Add.f k a.1 a.2 b.1 b.2) (addQ a b) := by
  unfold serinetteref01_Add.f addQ
  refine Ev.bind (rboth_ev ha hb) ?_
  by_cases c : okQ a = true
  · rw [if_pos c]
    by_cases c2 : okQ b = true
    · rw [if_pos c2]
      have m := okQ_mul c c2
      rw [w64 (n := a.1 * b.2) (by unfold I64; omega), w64 (n := b.1 * a.2) (by unfold I64; omega), w64 (n := a.1 * b.2 + b.1 * a.2) (by unfold I64; omega), w64 (n := a.2 * b.2) (by unfold I64; omega)]
      exact ev_pos (by rw [c, c2]; rfl) (Ev.bind (rmake_ev (by unfold I64; omega) (by unfold I64; omega)) (ev_const rfl))
    · rw [if_neg c2]; exact ev_neg (by rw [c]; simpa using c2) (ev_const rfl)
  · rw [if_neg c]; exact ev_neg (by simp [c]) (ev_const rfl)
theorem mul_ev {a b : Q} (ha : I64Q a) (hb : I64Q b) : Ev (fun k => ratio_Mul.f k a.1 a.2 b.1 b.2) (mulQ a b) := by
  unfold ratio_Mul.f mulQ
  refine Ev.bind (is_ev ha) ?_
  by_cases c : okQ a = true
  · rw [if_pos c]
    refine ev_pos c (Ev.bind (is_ev hb) ?_)
    by_cases c2 : okQ b = true
    · rw [if_pos c2]
      have m := okQ_mul c c2
      rw [w64 (n := a.1 * b.1) (by unfold I64; omega), w64 (n := a.2 * b.2) (by unfold I64; omega)]
      exact ev_pos c2 (Ev.bind (make_ev (by unfold I64; omega) (by unfold I64; omega)) (ev_const rfl))
    · rw [if_neg c2]; exact ev_neg c2 (ev_const rfl)
  · rw [if_neg c]; exact ev_neg c (ev_const rfl)
theorem awake_ev : Ev (fun k => serinettelaw01_awake.f k) true := by
  unfold serinettelaw01_awake.f
  refine Ev.bind (add_ev (a := (1, 3)) (b := (1, 6)) (by unfold I64Q I64; simp) (by unfold I64Q I64; simp)) ?_
  have e : addQ (1, 3) (1, 6) = (1, 2) := by decide +kernel
  rw [e]
  refine ev_pos rfl (Ev.bind (mul_ev (a := (1073741824, 1)) (b := (2, 1)) (by unfold I64Q I64; simp) (by unfold I64Q I64; simp)) (ev_const ?_))
  have e2 : mulQ (1073741824, 1) (2, 1) = (0, 0) := by decide +kernel
  rw [e2]
  rfl
theorem rwhole_ev {n : Int} (h : I64 n) : Ev (fun k => serinetteref01_Whole.f k n) (mk n 1) := by
  unfold serinetteref01_Whole.f
  exact Ev.bind (rmake_ev h (by unfold I64; omega)) (ev_const rfl)
theorem rmul_ev {a b : Q} (ha : I64Q a) (hb : I64Q b) : Ev (fun k => serinetteref01_Mul.f k a.1 a.2 b.1 b.2) (mulQ a b) := by
  unfold serinetteref01_Mul.f mulQ
  refine Ev.bind (rboth_ev ha hb) ?_
  by_cases c : okQ a = true
  · rw [if_pos c]
    by_cases c2 : okQ b = true
    · rw [if_pos c2]
      have m := okQ_mul c c2
      rw [w64 (n := a.1 * b.1) (by unfold I64; omega), w64 (n := a.2 * b.2) (by unfold I64; omega)]
      exact ev_pos (by rw [c, c2]; rfl) (Ev.bind (rmake_ev (by unfold I64; omega) (by unfold I64; omega)) (ev_const rfl))
    · rw [if_neg c2]; exact ev_neg (by rw [c]; simpa using c2) (ev_const rfl)
  · rw [if_neg c]; exact ev_neg (by simp [c]) (ev_const rfl)
theorem rdiv_ev {a b : Q} (ha : I64Q a) (hb : I64Q b) : Ev (fun k => serinetteref01_Div.f k a.1 a.2 b.1 b.2) (divQ a b) := by
  unfold serinetteref01_Div.f divQ
  refine Ev.bind (rboth_ev ha hb) ?_
  by_cases c : okQ a = true
  · rw [if_pos c]
    by_cases c2 : okQ b = true
    · rw [if_pos c2]
      have m := okQ_mul c c2
      rw [w64 (n := a.1 * b.2) (by unfold I64; omega), w64 (n := a.2 * b.1) (by unfold I64; omega)]
      exact ev_pos (by rw [c, c2]; rfl) (Ev.bind (rmake_ev (by unfold I64; omega) (by unfold I64; omega)) (ev_const rfl))
    · rw [if_neg c2]; exact ev_neg (by rw [c]; simpa using c2) (ev_const rfl)
  · rw [if_neg c]; exact ev_neg (by simp [c]) (ev_const rfl)
theorem sign_is (x y : Int) : ratio_sign.f (decide (x < y)) (decide (x > y)) = some (sgn x y) := by
  unfold ratio_sign.f sgn
  by_cases c : x < y
  · simp [c]
  · by_cases c2 : x > y
    · simp [c, c2]
    · simp [c, c2]
theorem cmp_ev {a b : Q} (ha : I64Q a) (hb : I64Q b) : Ev (fun k => ratio_Cmp.f k a.1 a.2 b.1 b.2) (cmpQ a b) := by
  unfold ratio_Cmp.f cmpQ
  refine Ev.bind (is_ev ha) (Ev.bind (is_ev hb) ?_)
  by_cases c : okQ a = true
  · rw [if_pos c]
    refine ev_pos c ?_
    refine Ev.step (fun k => ratio_Cmp.j0.eq_2 ..) ?_
    by_cases c2 : okQ b = true
    · rw [if_pos c2]
      refine ev_neg (by simp [c2]) ?_
      have m := okQ_mul c c2
      rw [w64 (n := a.1 * b.2) (by unfold I64; omega), w64 (n := b.1 * a.2) (by unfold I64; omega)]
      exact ev_bind (sign_is _ _) (ev_const rfl)
    · rw [if_neg c2]
      rw [Bool.not_eq_true] at c2
      refine ev_pos (by simp [c2]) (ev_pos c (ev_const ?_))
      rw [c2]
      rfl
  · rw [if_neg c]
    refine ev_neg c ?_
    refine Ev.step (fun k => ratio_Cmp.j0.eq_2 ..) ?_
    refine ev_pos rfl (ev_neg c (ev_const ?_))
    by_cases c2 : okQ b = true
    · rw [if_pos c2, c2]; rfl
    · rw [if_neg c2]
      rw [Bool.not_eq_true] at c2
      rw [c2]; rfl
theorem rcmp_ev {a b : Q} (ha : I64Q a) (hb : I64Q b) : Ev (fun k => serinetteref01_Cmp.f k a.1 a.2 b.1 b.2) (cmpQ a b) := by
  unfold serinetteref01_Cmp.f cmpQ
  refine Ev.bind (ris_ev ha) ?_
  by_cases c : okQ a = true
  · rw [if_pos c]
    refine ev_pos c ?_
    refine Ev.step (fun k => serinetteref01_Cmp.j0.eq_2 ..) ?_
    refine ev_neg (by decide) (Ev.bind (ris_ev ha) (ev_pos c (Ev.bind (ris_ev hb) ?_)))
    by_cases c2 : okQ b = true
    · refine ev_eq (ev_pos c2 ?_) (if_pos c2).symm
      have m := okQ_mul c c2
      rw [w64 (n := a.1 * b.2) (by unfold I64; omega), w64 (n := b.1 * a.2) (by unfold I64; omega)]
      unfold sgn
      refine ev_ite (fun _ => ev_const rfl) (fun _ => ev_ite (fun _ => ev_const rfl) (fun _ => ev_const rfl))
    · exact ev_eq (ev_neg c2 (ev_const rfl)) (if_neg c2).symm
  · rw [if_neg c]
    refine ev_neg c (Ev.bind (ris_ev hb) ?_)
    refine Ev.step (fun k => serinetteref01_Cmp.j0.eq_2 ..) ?_
    by_cases c2 : okQ b = true
    · rw [if_pos c2]
      exact ev_neg (by simp [c2]) (Ev.bind (ris_ev ha) (ev_neg c (ev_const rfl)))
    · rw [if_neg c2]
      exact ev_pos (by simp [c2]) (ev_const rfl)
theorem floordiv_is {n d : Int} (hn : I64 n) (hd : 0 < d) : serinetteref01_FloorDiv.f n d = some (n / d) := by
  unfold I64 at hn
  unfold serinetteref01_FloorDiv.f
  rw [if_neg (by omega)]
  have h1 : n / d ≤ n ∨ n / d ≤ 0 := by
    by_cases h : 0 ≤ n
    · exact .inl (Int.ediv_le_self d h)
    · exact .inr (Int.le_of_lt (Int.ediv_neg_of_neg_of_pos (by omega) hd))
  have h2 : n ≤ n / d ∨ 0 ≤ n / d := by
    by_cases h : 0 ≤ n
    · exact .inr (Int.ediv_nonneg h (by omega))
    · left
      rw [Int.le_ediv_iff_mul_le hd]
      have : n * d ≤ n * 1 := Int.mul_le_mul_of_nonpos_left (by omega) (by omega)
      omega
  have key : Int.tmod n d < 0 ↔ n < 0 ∧ n % d ≠ 0 := by
    by_cases h : 0 ≤ n
    · have := Int.tmod_nonneg d h
      omega
    · have e : Int.tmod n d = -(Int.tmod (-n) d) := by rw [Int.neg_tmod, Int.neg_neg]
      have h3 := Int.tmod_nonneg d (show 0 ≤ -n by omega)
      have h4 : Int.tmod n d = 0 ↔ n % d = 0 := by rw [← Int.dvd_iff_tmod_eq_zero, ← Int.dvd_iff_emod_eq_zero]
      omega
  have e := Int.tdiv_eq_ediv (a := n) (b := d)
  have hs : d.sign = 1 := Int.sign_eq_one_of_pos hd
  have hdv : d ∣ n ↔ n % d = 0 := Int.dvd_iff_emod_eq_zero
  by_cases c : Int.tmod n d < 0
  · rw [if_pos c]
    have c' := key.1 c
    rw [if_neg (by rw [hdv]; omega), hs] at e
    rw [e, w64 (n := n / d + 1) (by unfold I64; omega), show n / d + 1 - 1 = n / d by omega, w64 (by unfold I64; omega)]
  · rw [if_neg c]
    have e2 : Int.tdiv n d = n / d := by
      rw [e]
      by_cases h : 0 ≤ n
      · rw [if_pos (.inl h)]; omega
      · rw [if_pos (.inr (hdv.2 (by omega)))]; omega
    rw [e2, w64 (by unfold I64; omega)]
theorem div_ev {a b : Q} (ha : I64Q a) (hb : I64Q b) : Ev (fun k => ratio_Div.f k a.1 a.2 b.1 b.2) (divQ a b) := by
  unfold ratio_Div.f divQ
  refine Ev.bind (is_ev ha) ?_
  by_cases c : okQ a = true
  · rw [if_pos c]
    refine ev_pos c (Ev.bind (is_ev hb) ?_)
    by_cases c2 : okQ b = true
    · rw [if_pos c2]
      have m := okQ_mul c c2
      rw [w64 (n := a.1 * b.2) (by unfold I64; omega), w64 (n := a.2 * b.1) (by unfold I64; omega)]
      exact ev_pos c2 (Ev.bind (make_ev (by unfold I64; omega) (by unfold I64; omega)) (ev_const rfl))
    · rw [if_neg c2]; exact ev_neg c2 (ev_const rfl)
  · rw [if_neg c]; exact ev_neg c (ev_const rfl)
theorem neg_ev {a : Q} (ha : I64Q a) : Ev (fun k => ratio_Neg.f k a.1 a.2) (negQ a) := by
  unfold ratio_Neg.f negQ
  refine Ev.bind (is_ev ha) (ev_ite (fun c => ev_const ?_) (fun _ => ev_const rfl))
  have := okQ_bounds c
  rw [w64 (by unfold I64; omega)]
theorem rneg_ev {a : Q} (ha : I64Q a) : Ev (fun k => serinetteref01_Neg.f k a.1 a.2) (negQ a) := by
  unfold serinetteref01_Neg.f negQ
  refine Ev.bind (ris_ev ha) (ev_ite (fun c => ev_const ?_) (fun _ => ev_const rfl))
  have := okQ_bounds c
  rw [w64 (by unfold I64; omega)]
theorem sub_ev {a b : Q} (ha : I64Q a) (hb : I64Q b) : Ev (fun k => ratio_Sub.f k a.1 a.2 b.1 b.2) (subQ a b) := by
  unfold ratio_Sub.f subQ
  exact Ev.bind (neg_ev hb) (Ev.bind (add_ev ha (negQ_I64 b)) (ev_const rfl))
theorem rsub_ev {a b : Q} (ha : I64Q a) (hb : I64Q b) : Ev (fun k => serinetteref01_Sub.f k a.1 a.2 b.1 b.2) (subQ a b) := by
  unfold serinetteref01_Sub.f subQ
  exact Ev.bind (rneg_ev hb) (Ev.bind (radd_ev ha (negQ_I64 b)) (ev_const rfl))
theorem ediv_bounds {n d : Int} (hn : I64 n) (hd : 0 < d) : -9223372036854775808 ≤ n / d ∧ n / d ≤ 9223372036854775807 ∧ (0 ≤ n → n / d ≤ n) ∧ (n ≤ 0 → n ≤ n / d ∧ n / d ≤ 0) ∧ (0 ≤ n → 0 ≤ n / d) := by
  unfold I64 at hn
  have h1 : 0 ≤ n → n / d ≤ n := fun h => Int.ediv_le_self d h
  have h2 : 0 ≤ n → 0 ≤ n / d := fun h => Int.ediv_nonneg h (by omega)
  have h3 : n ≤ 0 → n ≤ n / d ∧ n / d ≤ 0 := by
    intro h
    constructor
    · rw [Int.le_ediv_iff_mul_le hd]
      have : n * d ≤ n * 1 := Int.mul_le_mul_of_nonpos_left h (by omega)
      omega
    · have := Int.ediv_le_ediv hd h
      simpa using this
  refine ⟨?_, ?_, h1, h3, h2⟩
  · by_cases h : 0 ≤ n
    · have := h2 h; omega
    · have := h3 (by omega); omega
  · by_cases h : 0 ≤ n
    · have := h1 h; omega
    · have := h3 (by omega); omega
theorem tdiv_floor {n d : Int} (hn : I64 n) (hd : 0 < d) : (if Int.tmod n d < 0 then wrap64 (wrap64 (Int.tdiv n d) - 1) else wrap64 (Int.tdiv n d)) = n / d := by
  have b := ediv_bounds hn hd
  unfold I64 at hn
  have key : Int.tmod n d < 0 ↔ n < 0 ∧ n % d ≠ 0 := by
    by_cases h : 0 ≤ n
    · have := Int.tmod_nonneg d h
      omega
    · have e : Int.tmod n d = -(Int.tmod (-n) d) := by rw [Int.neg_tmod, Int.neg_neg]
      have h3 := Int.tmod_nonneg d (show 0 ≤ -n by omega)
      have h4 : Int.tmod n d = 0 ↔ n % d = 0 := by rw [← Int.dvd_iff_tmod_eq_zero, ← Int.dvd_iff_emod_eq_zero]
      omega
  have e := Int.tdiv_eq_ediv (a := n) (b := d)
  have hs : d.sign = 1 := Int.sign_eq_one_of_pos hd
  have hdv : d ∣ n ↔ n % d = 0 := Int.dvd_iff_emod_eq_zero
  by_cases c : Int.tmod n d < 0
  · rw [if_pos c]
    have c' := key.1 c
    rw [if_neg (by rw [hdv]; omega), hs] at e
    rw [e, w64 (n := n / d + 1) (by unfold I64; omega), show n / d + 1 - 1 = n / d by omega, w64 (by unfold I64; omega)]
  · rw [if_neg c]
    have e2 : Int.tdiv n d = n / d := by
      rw [e]
      by_cases h : 0 ≤ n
      · rw [if_pos (.inl h)]; omega
      · rw [if_pos (.inr (hdv.2 (by omega)))]; omega
    rw [e2, w64 (by unfold I64; omega)]
theorem floor_is {n d : Int} (hn : I64 n) (hd : 0 < d) : ratio_floor.f n d = some (n / d) := by
  unfold ratio_floor.f
  rw [if_neg (by omega), ← tdiv_floor hn hd]
  split <;> rfl
theorem floor_ev {a : Q} (ha : I64Q a) : Ev (fun k => ratio_Floor.f k a.1 a.2) (floorQ a) := by
  unfold ratio_Floor.f floorQ
  refine Ev.bind (is_ev ha) (ev_ite (fun c => ?_) (fun _ => ev_const rfl))
  have b := okQ_bounds c
  have e := ediv_bounds (n := a.1) (d := a.2) (by unfold I64; omega) (by omega)
  exact ev_bind (floor_is (by unfold I64; omega) (by omega)) (Ev.bind (make_ev (by unfold I64; omega) (by unfold I64; omega)) (ev_const rfl))
theorem rfloor_ev {a : Q} (ha : I64Q a) : Ev (fun k => serinetteref01_Floor.f k a.1 a.2) (floorQ a) := by
  unfold serinetteref01_Floor.f floorQ
  refine Ev.bind (ris_ev ha) (ev_ite (fun c => ?_) (fun _ => ev_const rfl))
  have b := okQ_bounds c
  have e := ediv_bounds (n := a.1) (d := a.2) (by unfold I64; omega) (by omega)
  exact ev_bind (floordiv_is (by unfold I64; omega) (by omega)) (Ev.bind (rwhole_ev (by unfold I64; omega)) (ev_const rfl))
theorem frac_ev {a : Q} (ha : I64Q a) : Ev (fun k => ratio_Frac.f k a.1 a.2) (fracQ a) := by
  unfold ratio_Frac.f fracQ
  exact Ev.bind (floor_ev ha) (Ev.bind (sub_ev ha (floorQ_I64 a)) (ev_const rfl))
theorem rfrac_ev {a : Q} (ha : I64Q a) : Ev (fun k => serinetteref01_Frac.f k a.1 a.2) (fracQ a) := by
  unfold serinetteref01_Frac.f fracQ
  exact Ev.bind (rfloor_ev ha) (Ev.bind (rsub_ev ha (floorQ_I64 a)) (ev_const rfl))
theorem round_parts {n d : Int} (hd : 1 ≤ d) (hd2 : d ≤ 1073741824) (h0 : -1073741824 ≤ n) (h1 : n ≤ 1073741824) :
    -1073741824 ≤ n / d ∧ n / d ≤ 1073741824 ∧ 0 ≤ n - n / d * d ∧ n - n / d * d < d ∧ wrap64 (2 * wrap64 (n - wrap64 (n / d * d))) = 2 * (n - n / d * d) ∧ wrap64 (n / d + 1) = n / d + 1 := by
  have e := ediv_bounds (n := n) (d := d) (by unfold I64; omega) (by omega)
  have e1 := Int.emod_nonneg n (show d ≠ 0 by omega)
  have e2 := Int.emod_lt_of_pos n (show 0 < d by omega)
  have e3 := Int.mul_ediv_add_emod n d
  rw [Int.mul_comm] at e3
  have p : n - n / d * d = n % d := by omega
  refine ⟨by omega, by omega, by omega, by omega, ?_, w64 (by unfold I64; omega)⟩
  rw [w64 (n := n / d * d) (by unfold I64; omega), w64 (n := n - n / d * d) (by unfold I64; omega), w64 (by unfold I64; omega)]
theorem tmod2_zero (k : Int) : Int.tmod k 2 = 0 ↔ k % 2 = 0 := by rw [← Int.dvd_iff_tmod_eq_zero, ← Int.dvd_iff_emod_eq_zero]
theorem round_way {f : Nat → Int → Option (Int × Int)} {n d : Int} (hd : 1 ≤ d) (hd2 : d ≤ 1073741824) (h0 : -1073741824 ≤ n) (h1 : n ≤ 1073741824) (hf : ∀ m, I64 m → Ev (fun k => f k m) (mk m 1)) :
    Ev (fun k => if (wrap64 (2 * (wrap64 (n - (wrap64 (n / d * d)))))) > d then (f k (wrap64 (n / d + 1))) else (if (wrap64 (2 * (wrap64 (n - (wrap64 (n / d * d)))))) = d then (if (Int.tmod (n / d) 2) = 0 then (f k (n / d)) else (f k (wrap64 (n / d + 1)))) else (f k (n / d)))) (mk (roundI n d) 1) := by
  obtain ⟨b0, b1, b2, b3, e1, e2⟩ := round_parts hd hd2 h0 h1
  rw [e1, e2]
  unfold roundI
  by_cases c1 : 2 * (n - n / d * d) > d
  · rw [if_pos (.inl c1)]
    exact ev_pos c1 (hf _ (by unfold I64; omega))
  · refine ev_neg c1 ?_
    by_cases c2 : 2 * (n - n / d * d) = d
    · refine ev_pos c2 ?_
      by_cases c3 : Int.tmod (n / d) 2 = 0
      · rw [if_neg (by rintro (h | ⟨_, h⟩); exact c1 h; exact h ((tmod2_zero _).1 c3))]
        exact ev_pos c3 (hf _ (by unfold I64; omega))
      · rw [if_pos (.inr ⟨c2, fun h => c3 ((tmod2_zero _).2 h)⟩)]
        exact ev_neg c3 (hf _ (by unfold I64; omega))
    · rw [if_neg (by rintro (h | ⟨h, _⟩); exact c1 h; exact c2 h)]
      exact ev_neg c2 (hf _ (by unfold I64; omega))
theorem round_ev {a : Q} (ha : I64Q a) : Ev (fun k => ratio_Round.f k a.1 a.2) (roundQ a) := by
  unfold ratio_Round.f roundQ
  refine Ev.bind (is_ev ha) (ev_ite (fun c => ?_) (fun _ => ev_const rfl))
  have b := okQ_bounds c
  refine ev_bind (floor_is (by unfold I64; omega) (by omega)) ?_
  exact round_way (f := fun k m => (ratio_Make.f k m 1).bind fun bt => (some (bt.1, bt.2))) b.1 b.2.1 b.2.2.1 b.2.2.2 (fun m hm => Ev.bind (make_ev hm (by unfold I64; omega)) (ev_const rfl))
theorem rround_ev {a : Q} (ha : I64Q a) : Ev (fun k => serinetteref01_Round.f k a.1 a.2) (roundQ a) := by
  unfold serinetteref01_Round.f roundQ
  refine Ev.bind (ris_ev ha) (ev_ite (fun c => ?_) (fun _ => ev_const rfl))
  have b := okQ_bounds c
  refine ev_bind (floordiv_is (by unfold I64; omega) (by omega)) ?_
  exact round_way (f := fun k m => (serinetteref01_Whole.f k m).bind fun bt => (some (bt.1, bt.2))) b.1 b.2.1 b.2.2.1 b.2.2.2 (fun m hm => Ev.bind (rwhole_ev hm) (ev_const rfl))
theorem negQ_negQ (a : Q) : negQ (negQ a) = cleanQ a := by
  unfold cleanQ
  by_cases c : okQ a = true
  · have e : negQ a = (-a.1, a.2) := by unfold negQ; rw [if_pos c]
    rw [e, if_pos c]
    unfold negQ
    rw [if_pos (negQ_ok c)]
    simp
  · have e : negQ a = (0, 0) := by unfold negQ; rw [if_neg c]
    rw [e, if_neg c]
    rfl
theorem absQ_neg {a : Q} (h : a.1 < 0) : negQ a = absQ a := by
  unfold negQ absQ
  split
  · congr 1; omega
  · rfl
theorem absQ_pos {a : Q} (h : ¬ a.1 < 0) : cleanQ a = absQ a := by
  unfold cleanQ absQ
  split
  · rw [show ((a.1.natAbs : Nat) : Int) = a.1 by omega]
  · rfl
theorem abs_ev {a : Q} (ha : I64Q a) : Ev (fun k => ratio_Abs.f k a.1 a.2) (absQ a) := by
  unfold ratio_Abs.f
  by_cases c : a.1 < 0
  · refine ev_pos c (Ev.bind (neg_ev ha) (ev_const ?_))
    rw [absQ_neg c]
  · refine ev_neg c (Ev.bind (neg_ev ha) (Ev.bind (neg_ev (negQ_I64 a)) (ev_const ?_)))
    rw [negQ_negQ, absQ_pos c]
theorem rabs_ev {a : Q} (ha : I64Q a) : Ev (fun k => serinetteref01_Abs.f k a.1 a.2) (absQ a) := by
  unfold serinetteref01_Abs.f
  have other : ¬ (okQ a = true ∧ a.1 < 0) → Ev (fun k => serinetteref01_Abs.j0 k false a.1 a.2) (absQ a) := by
    intro h
    refine Ev.step (fun k => serinetteref01_Abs.j0.eq_2 ..) (ev_neg (by decide) (Ev.bind (rclean_ev ha) (ev_const ?_)))
    by_cases c : a.1 < 0
    · have c2 : ¬ okQ a = true := fun k => h ⟨k, c⟩
      unfold cleanQ absQ
      rw [if_neg c2, if_neg c2]
    · rw [absQ_pos c]
  refine Ev.bind (ris_ev ha) ?_
  by_cases c : okQ a = true
  · refine ev_pos c ?_
    by_cases c2 : a.1 < 0
    · rw [decide_eq_true c2]
      refine Ev.step (fun k => serinetteref01_Abs.j0.eq_2 ..) (ev_pos rfl (Ev.bind (rneg_ev ha) (ev_const ?_)))
      rw [absQ_neg c2]
    · rw [decide_eq_false c2]
      exact other (fun h => c2 h.2)
  · exact ev_neg c (other (fun h => c h.1))
def validQ (a : Q) : Bool := okQ a || (a.1 == 0 && a.2 == 0)
theorem valid_ev {a : Q} (ha : I64Q a) : Ev (fun k => ratio_Valid.f k a.1 a.2) (validQ a) := by
  unfold ratio_Valid.f validQ
  by_cases c : (a.1 == 0 && (a.2 == 0)) = true
  · exact ev_pos c (ev_const (by rw [c]; simp))
  · refine ev_neg c (Ev.bind (is_ev ha) (ev_const ?_))
    rw [Bool.not_eq_true] at c
    rw [c]; simp
theorem rvalid_ev {a : Q} (ha : I64Q a) : Ev (fun k => serinetteref01_Valid.f k a.1 a.2) (validQ a) := by
  unfold serinetteref01_Valid.f validQ
  refine Ev.bind (ris_ev ha) ?_
  by_cases c : okQ a = true
  · exact ev_pos c (ev_const (by rw [c]; simp))
  · refine ev_neg c ?_
    rw [Bool.not_eq_true] at c
    by_cases c2 : a.1 = 0
    · exact ev_pos c2 (ev_const (by rw [c]; simp [c2]))
    · exact ev_neg c2 (ev_const (by rw [c]; simp [c2]))
theorem min_none (a b : Q) : Ev (fun k => ratio_Min.j0 k true a.1 a.2 b.1 b.2) (0, 0) := by
  refine Ev.step (fun k => ratio_Min.j0.eq_2 ..) (ev_pos rfl (ev_const rfl))
theorem min_ev {a b : Q} (ha : I64Q a) (hb : I64Q b) : Ev (fun k => ratio_Min.f k a.1 a.2 b.1 b.2) (minQ a b) := by
  unfold ratio_Min.f minQ
  refine Ev.bind (is_ev ha) (ev_ite (fun c => Ev.bind (is_ev hb) ?_) (fun _ => min_none a b))
  by_cases c2 : okQ b = true
  · rw [if_pos c2, c2]
    refine Ev.step (fun k => ratio_Min.j0.eq_2 ..) (ev_neg (by decide) (Ev.bind (cmp_ev hb ha) ?_))
    exact ev_ite (fun _ => ev_const rfl) (fun _ => ev_const rfl)
  · rw [if_neg c2]
    rw [Bool.not_eq_true] at c2
    rw [c2]
    exact min_none a b
theorem max_none (a b : Q) : Ev (fun k => ratio_Max.j0 k true a.1 a.2 b.1 b.2) (0, 0) := by
  refine Ev.step (fun k => ratio_Max.j0.eq_2 ..) (ev_pos rfl (ev_const rfl))
theorem max_ev {a b : Q} (ha : I64Q a) (hb : I64Q b) : Ev (fun k => ratio_Max.f k a.1 a.2 b.1 b.2) (maxQ a b) := by
  unfold ratio_Max.f maxQ
  refine Ev.bind (is_ev ha) (ev_ite (fun c => Ev.bind (is_ev hb) ?_) (fun _ => max_none a b))
  by_cases c2 : okQ b = true
  · rw [if_pos c2, c2]
    refine Ev.step (fun k => ratio_Max.j0.eq_2 ..) (ev_neg (by decide) (Ev.bind (cmp_ev hb ha) ?_))
    exact ev_ite (fun _ => ev_const rfl) (fun _ => ev_const rfl)
  · rw [if_neg c2]
    rw [Bool.not_eq_true] at c2
    rw [c2]
    exact max_none a b
theorem cmp_turn {a b : Q} (ha : okQ a = true) (hb : okQ b = true) : cmpQ b a = -(cmpQ a b) := by
  unfold cmpQ sgn
  rw [if_pos ha, if_pos hb, if_pos ha, if_pos hb]
  split <;> split <;> (try split) <;> (try split) <;> omega
theorem rmin_ev {a b : Q} (ha : I64Q a) (hb : I64Q b) : Ev (fun k => serinetteref01_Min.f k a.1 a.2 b.1 b.2) (minQ a b) := by
  unfold serinetteref01_Min.f minQ
  refine Ev.bind (rboth_ev ha hb) ?_
  by_cases c : okQ a = true
  · by_cases c2 : okQ b = true
    · rw [if_pos c, if_pos c2, cmp_turn c c2]
      refine ev_pos (by rw [c, c2]; rfl) (Ev.bind (rcmp_ev ha hb) ?_)
      by_cases c3 : cmpQ a b ≤ 0
      · exact ev_eq (ev_pos c3 (ev_const rfl)) (if_neg (by omega)).symm
      · exact ev_eq (ev_neg c3 (ev_const rfl)) (if_pos (by omega)).symm
    · rw [if_pos c, if_neg c2]; exact ev_neg (by simp [c2]) (ev_const rfl)
  · rw [if_neg c]; exact ev_neg (by simp [c]) (ev_const rfl)
theorem rmax_ev {a b : Q} (ha : I64Q a) (hb : I64Q b) : Ev (fun k => serinetteref01_Max.f k a.1 a.2 b.1 b.2) (maxQ a b) := by
  unfold serinetteref01_Max.f maxQ
  refine Ev.bind (rboth_ev ha hb) ?_
  by_cases c : okQ a = true
  · by_cases c2 : okQ b = true
    · rw [if_pos c, if_pos c2, cmp_turn c c2]
      refine ev_pos (by rw [c, c2]; rfl) (Ev.bind (rcmp_ev ha hb) ?_)
      by_cases c3 : cmpQ a b ≥ 0
      · exact ev_eq (ev_pos c3 (ev_const rfl)) (if_neg (by omega)).symm
      · exact ev_eq (ev_neg c3 (ev_const rfl)) (if_pos (by omega)).symm
    · rw [if_pos c, if_neg c2]; exact ev_neg (by simp [c2]) (ev_const rfl)
  · rw [if_neg c]; exact ev_neg (by simp [c]) (ev_const rfl)
theorem tmod_I64 {x y : Int} (hx : -1152921504606846976 ≤ x ∧ x ≤ 1152921504606846976) : -1152921504606846976 ≤ Int.tmod x y ∧ Int.tmod x y ≤ 1152921504606846976 := by
  have h : (Int.tmod x y).natAbs ≤ x.natAbs := by
    rw [Int.natAbs_tmod]
    exact Nat.mod_le _ _
  omega
theorem mod_way {f : Nat → Int → Option (Int × Int)} {x y D : Int} (hx : -1152921504606846976 ≤ x ∧ x ≤ 1152921504606846976) (hy : -1152921504606846976 ≤ y ∧ y ≤ 1152921504606846976) (hf : ∀ m, I64 m → Ev (fun k => f k m) (mk m D)) (hy0 : y ≠ 0) :
    Ev (fun k => if y = 0 then none else (if (Int.tmod x y) = 0 then (f k (Int.tmod x y)) else (if ((decide ((Int.tmod x y) < 0)) != (decide (y < 0))) = true then (f k (wrap64 ((Int.tmod x y) + y))) else (f k (Int.tmod x y))))) (mk (fm x y) D) := by
  have t := tmod_I64 (y := y) hx
  refine ev_neg hy0 ?_
  unfold fm
  by_cases c1 : Int.tmod x y = 0
  · rw [if_pos c1]; exact ev_pos c1 (hf _ (by unfold I64; omega))
  · rw [if_neg c1]
    refine ev_neg c1 ?_
    by_cases c2 : ((decide ((Int.tmod x y) < 0)) != (decide (y < 0))) = true
    · rw [if_pos c2, w64 (by unfold I64; omega)]; exact ev_pos c2 (hf _ (by unfold I64; omega))
    · rw [if_neg c2]; exact ev_neg c2 (hf _ (by unfold I64; omega))
theorem mod_none (a b : Q) : Ev (fun k => ratio_Mod.j0 k true a.1 a.2 b.1 b.2) (0, 0) := by
  refine Ev.step (fun k => ratio_Mod.j0.eq_2 ..) (ev_pos rfl (ev_const rfl))
theorem mod_ev {a b : Q} (ha : I64Q a) (hb : I64Q b) : Ev (fun k => ratio_Mod.f k a.1 a.2 b.1 b.2) (modQ a b) := by
  unfold ratio_Mod.f modQ
  refine Ev.bind (is_ev ha) (ev_ite (fun c => Ev.bind (is_ev hb) (ev_ite (fun c2 => ?_) (fun _ => mod_none a b))) (fun _ => mod_none a b))
  by_cases c3 : b.1 = 0
  · rw [if_pos c3, show (b.1 == 0) = true by simpa using c3]
    exact mod_none a b
  · rw [if_neg c3, show (b.1 == 0) = false by simpa using c3]
    have m := okQ_mul c c2
    have ba := okQ_bounds c
    refine Ev.step (fun k => ratio_Mod.j0.eq_2 ..) (ev_neg (by decide) ?_)
    rw [w64 (n := a.1 * b.2) (by unfold I64; omega), w64 (n := b.1 * a.2) (by unfold I64; omega), w64 (n := a.2 * b.2) (by unfold I64; omega)]
    refine mod_way (f := fun k m => (ratio_Make.f k m (a.2 * b.2)).bind fun bt => (some (bt.1, bt.2))) m.1 m.2.1 (fun q hq => Ev.bind (make_ev hq (by unfold I64; omega)) (ev_const rfl)) ?_
    intro h
    rcases Int.mul_eq_zero.1 h with h | h <;> omega
theorem rmod_none (a b : Q) : Ev (fun k => serinetteref01_Mod.j0 k true a.1 a.2 b.1 b.2) (0, 0) := by
  refine Ev.step (fun k => serinetteref01_Mod.j0.eq_2 ..) (ev_pos rfl (ev_const rfl))
theorem rmod_ev {a b : Q} (ha : I64Q a) (hb : I64Q b) : Ev (fun k => serinetteref01_Mod.f k a.1 a.2 b.1 b.2) (modQ a b) := by
  unfold serinetteref01_Mod.f modQ
  refine Ev.bind (rboth_ev ha hb) ?_
  by_cases c : okQ a = true
  · by_cases c2 : okQ b = true
    · rw [if_pos c, if_pos c2]
      refine ev_pos (by rw [c, c2]; rfl) ?_
      by_cases c3 : b.1 = 0
      · rw [if_pos c3, show (b.1 == 0) = true by simpa using c3]
        exact rmod_none a b
      · rw [if_neg c3, show (b.1 == 0) = false by simpa using c3]
        have m := okQ_mul c c2
        have ba := okQ_bounds c
        refine Ev.step (fun k => serinetteref01_Mod.j0.eq_2 ..) (ev_neg (by decide) ?_)
        rw [w64 (n := a.1 * b.2) (by unfold I64; omega), w64 (n := b.1 * a.2) (by unfold I64; omega), w64 (n := a.2 * b.2) (by unfold I64; omega)]
        refine mod_way (f := fun k m => (serinetteref01_Make.f k m (a.2 * b.2)).bind fun bt => (some (bt.1, bt.2))) m.1 m.2.1 (fun q hq => Ev.bind (rmake_ev hq (by unfold I64; omega)) (ev_const rfl)) ?_
        intro h
        rcases Int.mul_eq_zero.1 h with h | h <;> omega
    · rw [if_pos c, if_neg c2]; exact ev_neg (by simp [c2]) (rmod_none a b)
  · rw [if_neg c]; exact ev_neg (by simp [c]) (rmod_none a b)
theorem ne_same (x : Q) : (!(x.1 == x.1) || (!(x.2 == x.2))) = false := by simp
theorem says_j2 {a b : Q} (ha : I64Q a) (hb : I64Q b) : Ev (fun k => serinettelaw01_NumberSays.j2 k false a.1 a.2 b.1 b.2) true := by
  refine Ev.step (fun k => serinettelaw01_NumberSays.j2.eq_2 ..) (ev_neg (by decide) ?_)
  exact Ev.bind (min_ev ha hb) (Ev.bind (rmin_ev ha hb) (ev_pos (by simp) (Ev.bind (max_ev ha hb) (Ev.bind (rmax_ev ha hb) (ev_pos (by simp) (Ev.bind awake_ev (ev_const rfl)))))))
theorem says_j1 {a b : Q} (ha : I64Q a) (hb : I64Q b) : Ev (fun k => serinettelaw01_NumberSays.j1 k false a.1 a.2 b.1 b.2) true := by
  refine Ev.step (fun k => serinettelaw01_NumberSays.j1.eq_2 ..) (ev_neg (by decide) ?_)
  refine Ev.bind (neg_ev ha) (Ev.bind (rneg_ev ha) (ev_neg (by simp) ?_))
  refine Ev.bind (abs_ev ha) (Ev.bind (rabs_ev ha) (ev_neg (by simp) ?_))
  refine Ev.bind (floor_ev ha) (Ev.bind (rfloor_ev ha) (ev_neg (by simp) ?_))
  refine Ev.bind (round_ev ha) (Ev.bind (rround_ev ha) (ev_neg (by simp) ?_))
  refine Ev.bind (frac_ev ha) (Ev.bind (rfrac_ev ha) ?_)
  rw [ne_same]
  exact says_j2 ha hb
theorem says_j0 {a b : Q} (ha : I64Q a) (hb : I64Q b) : Ev (fun k => serinettelaw01_NumberSays.j0 k false a.1 a.2 b.1 b.2) true := by
  refine Ev.step (fun k => serinettelaw01_NumberSays.j0.eq_2 ..) (ev_neg (by decide) ?_)
  refine Ev.bind (add_ev ha hb) (Ev.bind (radd_ev ha hb) (ev_neg (by simp) ?_))
  refine Ev.bind (sub_ev ha hb) (Ev.bind (rsub_ev ha hb) (ev_neg (by simp) ?_))
  refine Ev.bind (mul_ev ha hb) (Ev.bind (rmul_ev ha hb) (ev_neg (by simp) ?_))
  refine Ev.bind (div_ev ha hb) (Ev.bind (rdiv_ev ha hb) (ev_neg (by simp) ?_))
  refine Ev.bind (mod_ev ha hb) (Ev.bind (rmod_ev ha hb) ?_)
  rw [ne_same]
  exact says_j1 ha hb
/-- The law, as plain Lean. -/
theorem pure {a b : Q} (ha : I64Q a) (hb : I64Q b) : ∃ k, serinettelaw01_NumberSays.f k a.1 a.2 b.1 b.2 = some true := by
  refine Ev.rounds ?_
  unfold serinettelaw01_NumberSays.f
  refine Ev.bind (is_ev ha) (Ev.bind (ris_ev ha) (ev_neg (by simp) ?_))
  refine Ev.bind (valid_ev ha) (Ev.bind (rvalid_ev ha) (ev_neg (by simp) ?_))
  refine Ev.bind (cmp_ev ha hb) (Ev.bind (rcmp_ev ha hb) ?_)
  rw [show (cmpQ a b != cmpQ a b) = false by simp]
  exact says_j0 ha hb

end Go.Proofs.Ytgecbfemlpmpeaa.SNumberSays
