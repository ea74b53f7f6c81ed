/- Parts of the proof of TurnsKept, joined by program out of this session's own texts. -/
import Derived.Test.YtcgohbhligdicaaZP4
set_option linter.unusedVariables false
set_option linter.unusedSimpArgs false
namespace Go.Proofs.Ytcgohbhligdicaa.STurnsKept
open Go.RowKit Go.Proofs.Ytcgohbhligdicaa.Wd.PrintWords Go.Proofs.Ytcgohbhligdicaa.Plain
theorem w64 {n : Int} (h : I64 n) : wrap64 n = n := by unfold I64 at h; unfold wrap64; omega
theorem wu64 (n : Int) : IntKind.u64.wrap n = n % 18446744073709551616 := by simp [IntKind.wrap, IntKind.bits, IntKind.signed]
theorem ev_pos {α : Type} {c : Prop} [Decidable c] {f g : Nat → Option α} {r : α} (h : c) (k : Ev f r) : Ev (fun n => if c then f n else g n) r := by simpa only [if_pos h] using k
theorem ev_neg {α : Type} {c : Prop} [Decidable c] {f g : Nat → Option α} {r : α} (h : ¬ c) (k : Ev g r) : Ev (fun n => if c then f n else g n) r := by simpa only [if_neg h] using k
theorem ev_const {α : Type} {x : Option α} {r : α} (h : x = some r) : Ev (fun _ => x) r := ⟨0, fun _ _ => h⟩
theorem ev_bind {α β : Type} {x : Option α} {f : Nat → α → Option β} {a : α} {r : β} (h : x = some a) (k : Ev (fun n => f n a) r) : Ev (fun n => x.bind (f n)) r := by
  subst h
  exact k
theorem i64_of {n : Int} (h : (Lit.int .i64 n).wf = true) : I64 n := by
  simp [Lit.wf] at h
  exact h
theorem ev_ite {α : Type} {c : Prop} [Decidable c] {f g : Nat → Option α} {r s : α} (h : c → Ev f r) (k : ¬ c → Ev g s) : Ev (fun n => if c then f n else g n) (if c then r else s) := by
  by_cases e : c
  · rw [if_pos e]; exact ev_pos e (h e)
  · rw [if_neg e]; exact ev_neg e (k e)
theorem size_is {n : Int} (h : I64 n) : ratio_size.f n = some (n.natAbs : Int) := by
  unfold I64 at h
  unfold ratio_size.f
  simp only [wu64]
  split
  · congr 1; omega
  · congr 1; omega
theorem divisor_l0 : ∀ (b a : Nat), Ev (fun k => ratio_divisor.l0 k (a : Int) (b : Int)) ((Nat.gcd a b : Nat) : Int) := by
  intro b
  induction b using Nat.strongRecOn with
  | ind b ih =>
    intro a
    refine Ev.step (f := fun k => if (b : Int) = 0 then (some (a : Int)) else (ratio_divisor.l0 k (b : Int) (Int.tmod (a : Int) (b : Int)))) (fun k => by simp only [ratio_divisor.l0]) ?_
    by_cases hb : b = 0
    · subst hb
      refine ev_pos rfl (ev_const ?_)
      simp
    · refine ev_neg (by omega) ?_
      have h := ih (a % b) (Nat.mod_lt _ (by omega)) b
      rw [Int.ofNat_tmod] at h
      rw [Nat.gcd_comm, Nat.gcd_rec, Nat.gcd_comm]
      exact h
theorem divisor_ev (a b : Nat) : Ev (fun k => ratio_divisor.f k (a : Int) (b : Int)) ((Nat.gcd a b : Nat) : Int) := divisor_l0 b a
theorem is_ev {a : Q} (h : I64Q a) : Ev (fun k => ratio_Is.f k a.1 a.2) (okQ a) := by
  obtain ⟨n, d⟩ := a
  obtain ⟨h1, h2⟩ := h
  simp only at h1 h2
  show Ev (fun k => ratio_Is.f k n d) (isQ n d)
  unfold ratio_Is.f
  by_cases c1 : d ≥ 1
  · refine ev_pos c1 ?_
    by_cases c2 : d ≤ 1073741824
    · refine ev_pos c2 ?_
      by_cases c3 : n ≥ (-1073741824)
      · refine ev_pos c3 ?_
        by_cases c4 : n ≤ 1073741824
        · refine ev_pos c4 (ev_bind (size_is h1) (ev_bind (size_is h2) (Ev.bind (divisor_ev n.natAbs d.natAbs) (ev_const ?_))))
          congr 1
          rw [Bool.eq_iff_iff, isQ_iff]
          simp only [beq_iff_eq]
          omega
        · exact ev_neg c4 (ev_const (by rw [isQ_false.2 (by omega)]))
      · exact ev_neg c3 (ev_const (by rw [isQ_false.2 (by omega)]))
    · exact ev_neg c2 (ev_const (by rw [isQ_false.2 (by omega)]))
  · exact ev_neg c1 (ev_const (by rw [isQ_false.2 (by omega)]))
theorem make_ev {n d : Int} (hn : I64 n) (hd : I64 d) : Ev (fun k => ratio_Make.f k n d) (mk n d) := by
  have hn' := hn
  have hd' := hd
  unfold I64 at hn' hd'
  unfold ratio_Make.f
  by_cases c : d = 0
  · subst c
    refine ev_pos rfl (ev_const ?_)
    rw [mk_zero_den]
  · refine ev_neg c (ev_bind (size_is hn) (ev_bind (size_is hd) (Ev.bind (divisor_ev n.natAbs d.natAbs) ?_)))
    obtain ⟨l1, l2, l3, l4⟩ := lowest n.natAbs d.natAbs (by omega)
    have hg := gcd_pos_of (n := n) c
    have e1 : (Int.tdiv (n.natAbs : Int) ((Nat.gcd n.natAbs d.natAbs : Nat) : Int)) = ((n.natAbs / Nat.gcd n.natAbs d.natAbs : Nat) : Int) := by rw [← Int.ofNat_tdiv]
    have e2 : (Int.tdiv (d.natAbs : Int) ((Nat.gcd n.natAbs d.natAbs : Nat) : Int)) = ((d.natAbs / Nat.gcd n.natAbs d.natAbs : Nat) : Int) := by rw [← Int.ofNat_tdiv]
    have b1 := Nat.div_le_self n.natAbs (Nat.gcd n.natAbs d.natAbs)
    have b2 := Nat.div_le_self d.natAbs (Nat.gcd n.natAbs d.natAbs)
    simp only [e1, e2]
    refine ev_neg (by omega) ?_
    unfold mk
    rw [if_neg c]
    clear l1 l3 l4
    generalize n.natAbs / Nat.gcd n.natAbs d.natAbs = x at *
    generalize d.natAbs / Nat.gcd n.natAbs d.natAbs = y at *
    have w1 : IntKind.u64.wrap (x : Int) = (x : Int) := by rw [wu64]; omega
    have w2 : IntKind.u64.wrap (y : Int) = (y : Int) := by rw [wu64]; omega
    simp only [w1, w2]
    have j : ∀ b : Bool, b = true → Ev (fun k => ratio_Make.j0 k n d (x : Int) (y : Int) b) (0, 0) := by
      intro b hb
      subst hb
      refine Ev.step (f := fun k => (if true = true then (some ((0 : Int), (0 : Int))) else (if ((decide (n < 0)) != (decide (d < 0))) = true then (some (wrap64 (-(wrap64 ((x : Int)))), wrap64 ((y : Int)))) else (some (wrap64 ((x : Int)), wrap64 ((y : Int))))))) (fun k => by simp only [ratio_Make.j0]) (ev_pos rfl (ev_const rfl))
    by_cases c1 : 1073741824 < x
    · rw [if_pos (Or.inl c1)]
      exact ev_pos (by omega) (j _ rfl)
    · refine ev_neg (by omega) ?_
      by_cases c2 : 1073741824 < y
      · rw [if_pos (Or.inr c2)]
        exact j _ (by simp; omega)
      · rw [if_neg (by omega)]
        have e : decide ((y : Int) > 1073741824) = false := by simp; omega
        simp only [e]
        clear w1 w2 e1 e2 j
        have hx : wrap64 (x : Int) = (x : Int) := w64 (by unfold I64; omega)
        have hy : wrap64 (y : Int) = (y : Int) := w64 (by unfold I64; omega)
        have hz : wrap64 (-(x : Int)) = -(x : Int) := w64 (n := -(x : Int)) (by unfold I64; omega)
        refine Ev.step (f := fun k => (if false = true then (some ((0 : Int), (0 : Int))) else (if ((decide (n < 0)) != (decide (d < 0))) = true then (some (wrap64 (-(wrap64 ((x : Int)))), wrap64 ((y : Int)))) else (some (wrap64 ((x : Int)), wrap64 ((y : Int))))))) (fun k => by simp only [ratio_Make.j0]) ?_
        simp only [hx, hy, hz]
        refine ev_neg (by decide) ?_
        by_cases k : n < 0 ↔ d < 0
        · rw [if_pos k]
          refine ev_neg ?_ (ev_const rfl)
          by_cases k1 : n < 0
          · simp [k1, k.1 k1]
          · simp [k1, show ¬ d < 0 from fun h => k1 (k.2 h)]
        · rw [if_neg k]
          refine ev_pos ?_ (ev_const rfl)
          by_cases k1 : n < 0 <;> by_cases k2 : d < 0 <;> simp [k1, k2] at k ⊢
theorem rdivisor_l0 : ∀ (b a : Nat), Ev (fun k => serinetteref01_Divisor.l0 k (a : Int) (b : Int)) ((Nat.gcd a b : Nat) : Int) := by
  intro b
  induction b using Nat.strongRecOn with
  | ind b ih =>
    intro a
    refine Ev.step (f := fun k => if (b : Int) = 0 then (some (a : Int)) else (serinetteref01_Divisor.l0 k (b : Int) (Int.tmod (a : Int) (b : Int)))) (fun k => by simp only [serinetteref01_Divisor.l0]) ?_
    by_cases hb : b = 0
    · subst hb
      refine ev_pos rfl (ev_const ?_)
      simp
    · refine ev_neg (by omega) ?_
      have h := ih (a % b) (Nat.mod_lt _ (by omega)) b
      rw [Int.ofNat_tmod] at h
      rw [Nat.gcd_comm, Nat.gcd_rec, Nat.gcd_comm]
      exact h
theorem rdivisor_ev {a b : Int} (ha : I64 a) (hb : I64 b) (ha' : a ≠ -9223372036854775808) (hb' : b ≠ -9223372036854775808) : Ev (fun k => serinetteref01_Divisor.f k a b) ((Nat.gcd a.natAbs b.natAbs : Nat) : Int) := by
  unfold I64 at ha hb
  have j1 : ∀ (x y : Int), x = (a.natAbs : Int) → y = (b.natAbs : Int) → Ev (fun k => serinetteref01_Divisor.j1 k x y) ((Nat.gcd a.natAbs b.natAbs : Nat) : Int) := by
    intro x y hx hy
    subst hx hy
    exact Ev.step (f := fun k => serinetteref01_Divisor.l0 k (a.natAbs : Int) (b.natAbs : Int)) (fun k => by simp only [serinetteref01_Divisor.j1]) (rdivisor_l0 _ _)
  have j0 : ∀ (x : Int), x = (a.natAbs : Int) → Ev (fun k => serinetteref01_Divisor.j0 k x b) ((Nat.gcd a.natAbs b.natAbs : Nat) : Int) := by
    intro x hx
    refine Ev.step (f := fun k => if b < 0 then (serinetteref01_Divisor.j1 k x (wrap64 (-b))) else (serinetteref01_Divisor.j1 k x b)) (fun k => by simp only [serinetteref01_Divisor.j0]) ?_
    by_cases c : b < 0
    · refine ev_pos c (j1 _ _ hx ?_)
      rw [w64 (by unfold I64; omega)]; omega
    · exact ev_neg c (j1 _ _ hx (by omega))
  unfold serinetteref01_Divisor.f
  by_cases c : a < 0
  · refine ev_pos c (j0 _ ?_)
    rw [w64 (by unfold I64; omega)]; omega
  · exact ev_neg c (j0 _ (by omega))
theorem ris_ev {a : Q} (h : I64Q a) : Ev (fun k => serinetteref01_Is.f k a.1 a.2) (okQ a) := by
  obtain ⟨n, d⟩ := a
  obtain ⟨h1, h2⟩ := h
  simp only at h1 h2
  show Ev (fun k => serinetteref01_Is.f k n d) (isQ n d)
  unfold serinetteref01_Is.f
  by_cases c1 : d ≥ 1
  · refine ev_pos c1 ?_
    by_cases c2 : d ≤ 1073741824
    · refine ev_pos c2 ?_
      by_cases c3 : n ≥ (-1073741824)
      · refine ev_pos c3 ?_
        by_cases c4 : n ≤ 1073741824
        · refine ev_pos c4 (Ev.bind (rdivisor_ev h1 h2 (by omega) (by omega)) (ev_const ?_))
          congr 1
          rw [Bool.eq_iff_iff, isQ_iff]
          simp only [beq_iff_eq]
          omega
        · exact ev_neg c4 (ev_const (by rw [isQ_false.2 (by omega)]))
      · exact ev_neg c3 (ev_const (by rw [isQ_false.2 (by omega)]))
    · exact ev_neg c2 (ev_const (by rw [isQ_false.2 (by omega)]))
  · exact ev_neg c1 (ev_const (by rw [isQ_false.2 (by omega)]))
theorem least_is {n : Int} (h : I64 n) : serinetteref01_least.f n = some (decide (n = -9223372036854775808)) := by
  unfold I64 at h
  unfold serinetteref01_least.f
  by_cases c : n = wrap64 (-n)
  · rw [if_pos c]
    unfold wrap64 at c
    congr 1
    rw [Bool.eq_iff_iff]
    simp
    omega
  · rw [if_neg c]
    unfold wrap64 at c
    congr 1
    symm
    simp
    omega
theorem rmake_j2 {n d : Int} (hn : I64 n) (hd : I64 d) (hn' : n ≠ -9223372036854775808) (c : 0 < d) : Ev (fun k => serinetteref01_Make.j2 k n d) (mk n d) := by
  refine Ev.step (f := fun k => (serinetteref01_Divisor.f k n d).bind fun t140 => (if t140 = 0 then (none) else ((serinetteref01_Is.f k (wrap64 (Int.tdiv n t140)) (wrap64 (Int.tdiv d t140))).bind fun t142 => (if t142 = true then (some (wrap64 (Int.tdiv n t140), wrap64 (Int.tdiv d t140))) else ((serinetteref01_None.f).bind fun bt143 => (some (bt143.1, bt143.2))))))) (fun k => by simp only [serinetteref01_Make.j2]) ?_
  refine Ev.bind (rdivisor_ev hn hd hn' (by omega)) ?_
  have hg := gcd_pos_of (n := n) (d := d) (by omega)
  obtain ⟨l1, l2, l3, l4⟩ := lowest n.natAbs d.natAbs (by omega)
  refine ev_neg (by omega) ?_
  unfold I64 at hn hd
  have b1 := Nat.div_le_self n.natAbs (Nat.gcd n.natAbs d.natAbs)
  have b2 := Nat.div_le_self d.natAbs (Nat.gcd n.natAbs d.natAbs)
  have e2 : Int.tdiv d ((Nat.gcd n.natAbs d.natAbs : Nat) : Int) = ((d.natAbs / Nat.gcd n.natAbs d.natAbs : Nat) : Int) := by
    rw [Int.ofNat_tdiv, show (d.natAbs : Int) = d by omega]
  have e1 : Int.tdiv n ((Nat.gcd n.natAbs d.natAbs : Nat) : Int) = if n < 0 then -((n.natAbs / Nat.gcd n.natAbs d.natAbs : Nat) : Int) else ((n.natAbs / Nat.gcd n.natAbs d.natAbs : Nat) : Int) := by
    split
    · rename_i hneg
      rw [Int.ofNat_tdiv, ← Int.neg_tdiv, show -(n.natAbs : Int) = n by omega]
    · rw [Int.ofNat_tdiv, show (n.natAbs : Int) = n by omega]
  have hv : ∀ v : Int, (v = ((n.natAbs / Nat.gcd n.natAbs d.natAbs : Nat) : Int) ∨ v = -((n.natAbs / Nat.gcd n.natAbs d.natAbs : Nat) : Int)) → I64 v ∧ v.natAbs = n.natAbs / Nat.gcd n.natAbs d.natAbs := by
    intro v h
    unfold I64
    clear l1 l2 l3 l4
    generalize n.natAbs / Nat.gcd n.natAbs d.natAbs = x at *
    omega
  have hv2 := hv (Int.tdiv n ((Nat.gcd n.natAbs d.natAbs : Nat) : Int)) (by rw [e1]; split <;> simp)
  have w1 : wrap64 (Int.tdiv n ((Nat.gcd n.natAbs d.natAbs : Nat) : Int)) = Int.tdiv n ((Nat.gcd n.natAbs d.natAbs : Nat) : Int) := w64 hv2.1
  have w2 : wrap64 (Int.tdiv d ((Nat.gcd n.natAbs d.natAbs : Nat) : Int)) = Int.tdiv d ((Nat.gcd n.natAbs d.natAbs : Nat) : Int) := w64 (by rw [e2]; unfold I64; omega)
  simp only [w1, w2]
  have hI : I64Q (Int.tdiv n ((Nat.gcd n.natAbs d.natAbs : Nat) : Int), Int.tdiv d ((Nat.gcd n.natAbs d.natAbs : Nat) : Int)) := by
    exact ⟨hv2.1, by simp only; rw [e2]; unfold I64; omega⟩
  refine Ev.bind (ris_ev hI) ?_
  have hval : okQ (Int.tdiv n ((Nat.gcd n.natAbs d.natAbs : Nat) : Int), Int.tdiv d ((Nat.gcd n.natAbs d.natAbs : Nat) : Int)) = decide (¬ (1073741824 < n.natAbs / Nat.gcd n.natAbs d.natAbs ∨ 1073741824 < d.natAbs / Nat.gcd n.natAbs d.natAbs)) := by
    unfold okQ
    simp only
    have q := hv2.2
    rw [Bool.eq_iff_iff, isQ_iff, hv2.2, e2, Int.natAbs_natCast, l1]
    simp only [decide_eq_true_eq, and_true]
    clear hI w1 w2 hv hv2 e1 e2 l1 l3 l4 b1
    generalize Int.tdiv n ((Nat.gcd n.natAbs d.natAbs : Nat) : Int) = v at *
    generalize n.natAbs / Nat.gcd n.natAbs d.natAbs = x at *
    generalize d.natAbs / Nat.gcd n.natAbs d.natAbs = y at *
    omega
  by_cases cc : 1073741824 < n.natAbs / Nat.gcd n.natAbs d.natAbs ∨ 1073741824 < d.natAbs / Nat.gcd n.natAbs d.natAbs
  · refine ev_neg (by rw [hval]; simp; omega) (ev_const ?_)
    unfold mk
    rw [if_neg (by omega), if_pos cc]
    rfl
  · refine ev_pos (by rw [hval]; simp; omega) (ev_const ?_)
    unfold mk
    rw [if_neg (by omega), if_neg cc, e1, e2]
    congr 2
    by_cases k : n < 0
    · rw [if_pos k, if_neg (by omega)]
    · rw [if_neg k, if_pos (by omega)]
theorem rmake_j1 {n d : Int} (hn : I64 n) (hd : I64 d) (hn' : n ≠ -9223372036854775808) (hd' : d ≠ -9223372036854775808) (c : d ≠ 0) : Ev (fun k => serinetteref01_Make.j1 k n d false) (mk n d) := by
  refine Ev.step (f := fun k => if false = true then (if (Int.tmod n 2) = 0 then (if (Int.tmod d 2) = 0 then (serinetteref01_Make.l0 k (wrap64 (Int.tdiv n 2)) (wrap64 (Int.tdiv d 2))) else ((serinetteref01_None.f).bind fun bt136 => (some (bt136.1, bt136.2)))) else ((serinetteref01_None.f).bind fun bt138 => (some (bt138.1, bt138.2)))) else (if d < 0 then (serinetteref01_Make.j2 k (wrap64 (-n)) (wrap64 (-d))) else (serinetteref01_Make.j2 k n d))) (fun k => by simp only [serinetteref01_Make.j1]) ?_
  refine ev_neg (by decide) ?_
  unfold I64 at hn hd
  by_cases k : d < 0
  · refine ev_pos k ?_
    rw [w64 (n := -n) (by unfold I64; omega), w64 (n := -d) (by unfold I64; omega)]
    rw [mk_cross (n := n) (d := d) (n' := -n) (d' := -d) c (by omega) (by rw [Int.mul_neg, Int.neg_mul])]
    exact rmake_j2 (by unfold I64; omega) (by unfold I64; omega) (by omega) (by omega)
  · exact ev_neg k (rmake_j2 hn hd hn' (by omega))
theorem rmake_l0 {n d : Int} (hn : I64 n) (hd : I64 d) (hn' : n ≠ -9223372036854775808) (hd' : d ≠ -9223372036854775808) (c : d ≠ 0) : Ev (fun k => serinetteref01_Make.l0 k n d) (mk n d) := by
  refine Ev.step (f := fun k => (serinetteref01_least.f n).bind fun t134 => (if t134 = true then (serinetteref01_Make.j1 k n d true) else ((serinetteref01_least.f d).bind fun t135 => (serinetteref01_Make.j1 k n d t135)))) (fun k => by simp only [serinetteref01_Make.l0]) ?_
  refine ev_bind (least_is hn) (ev_neg (by simpa using hn') (ev_bind (least_is hd) ?_))
  simp only [decide_eq_false hd']
  exact rmake_j1 hn hd hn' hd' c
theorem gcd_pow2 (d : Nat) (h : d % 2 = 1) : Nat.gcd 9223372036854775808 d = 1 := by
  have h2 : Nat.Coprime 2 d := by
    rw [Nat.coprime_iff_gcd_eq_one, Nat.gcd_rec, h]; decide
  have := Nat.Coprime.pow_left 63 h2
  exact this
theorem rmake_ev {n d : Int} (hn : I64 n) (hd : I64 d) : Ev (fun k => serinetteref01_Make.f k n d) (mk n d) := by
  unfold serinetteref01_Make.f
  by_cases c : d = 0
  · subst c
    refine ev_pos rfl (ev_const ?_)
    rw [mk_zero_den]
    rfl
  · refine ev_neg c ?_
    by_cases k : n ≠ -9223372036854775808 ∧ d ≠ -9223372036854775808
    · exact rmake_l0 hn hd k.1 k.2 c
    · have hn' := hn
      have hd' := hd
      unfold I64 at hn' hd'
      have j1 : Ev (fun k => serinetteref01_Make.j1 k n d true) (mk n d) := by
        refine Ev.step (f := fun k => if true = true then (if (Int.tmod n 2) = 0 then (if (Int.tmod d 2) = 0 then (serinetteref01_Make.l0 k (wrap64 (Int.tdiv n 2)) (wrap64 (Int.tdiv d 2))) else ((serinetteref01_None.f).bind fun bt136 => (some (bt136.1, bt136.2)))) else ((serinetteref01_None.f).bind fun bt138 => (some (bt138.1, bt138.2)))) else (if d < 0 then (serinetteref01_Make.j2 k (wrap64 (-n)) (wrap64 (-d))) else (serinetteref01_Make.j2 k n d))) (fun k => by simp only [serinetteref01_Make.j1]) ?_
        refine ev_pos rfl ?_
        have tm : ∀ m : Int, Int.tmod m 2 = 0 ↔ m % 2 = 0 := fun m => by
          rw [← Int.dvd_iff_tmod_eq_zero, ← Int.dvd_iff_emod_eq_zero]
        by_cases c1 : Int.tmod n 2 = 0
        · refine ev_pos c1 ?_
          rw [tm] at c1
          by_cases c2 : Int.tmod d 2 = 0
          · refine ev_pos c2 ?_
            rw [tm] at c2
            have t1 : Int.tdiv n 2 = n / 2 := Int.tdiv_eq_ediv_of_dvd (Int.dvd_of_emod_eq_zero c1)
            have t2 : Int.tdiv d 2 = d / 2 := Int.tdiv_eq_ediv_of_dvd (Int.dvd_of_emod_eq_zero c2)
            rw [t1, t2, w64 (n := n / 2) (by unfold I64; omega), w64 (n := d / 2) (by unfold I64; omega)]
            rw [mk_cross (n := n) (d := d) (n' := n / 2) (d' := d / 2) c (by omega) (by
              obtain ⟨x, hx⟩ := Int.dvd_of_emod_eq_zero c1
              obtain ⟨y, hy⟩ := Int.dvd_of_emod_eq_zero c2
              rw [show n / 2 = x by omega, show d / 2 = y by omega, hx, hy, Int.mul_comm 2 x, Int.mul_assoc])]
            exact rmake_l0 (by unfold I64; omega) (by unfold I64; omega) (by omega) (by omega) (by omega)
          · refine ev_neg c2 (ev_const ?_)
            rw [tm] at c2
            have hN : n = -9223372036854775808 := by omega
            subst hN
            unfold mk
            rw [if_neg c, if_pos (Or.inl (by
              rw [show Int.natAbs (-9223372036854775808) = 9223372036854775808 from rfl, gcd_pow2 _ (by omega)]; omega))]
            rfl
        · refine ev_neg c1 (ev_const ?_)
          rw [tm] at c1
          have hD : d = -9223372036854775808 := by omega
          subst hD
          unfold mk
          rw [if_neg c, if_pos (Or.inr (by
            rw [show Int.natAbs (-9223372036854775808) = 9223372036854775808 from rfl, Nat.gcd_comm, gcd_pow2 _ (by omega)]; omega))]
          rfl
      refine Ev.step (f := fun k => (serinetteref01_least.f n).bind fun t134 => (if t134 = true then (serinetteref01_Make.j1 k n d true) else ((serinetteref01_least.f d).bind fun t135 => (serinetteref01_Make.j1 k n d t135)))) (fun k => by simp only [serinetteref01_Make.l0]) ?_
      refine ev_bind (least_is hn) ?_
      by_cases e : n = -9223372036854775808
      · exact ev_pos (by simpa using e) j1
      · refine ev_neg (by simpa using e) (ev_bind (least_is hd) ?_)
        have e2 : d = -9223372036854775808 := by
          by_cases e2 : d = -9223372036854775808
          · exact e2
          · exact absurd ⟨e, e2⟩ k
        simp only [decide_eq_true e2]
        exact j1
theorem rboth_ev {a b : Q} (ha : I64Q a) (hb : I64Q b) : Ev (fun k => serinetteref01_both.f k a.1 a.2 b.1 b.2) (okQ a && okQ b) := by
  unfold serinetteref01_both.f
  refine Ev.bind (ris_ev ha) ?_
  by_cases c : okQ a = true
  · refine ev_pos c (Ev.bind (ris_ev hb) (ev_const ?_))
    rw [c]; rfl
  · refine ev_neg c (ev_const ?_)
    rw [Bool.not_eq_true] at c
    rw [c]; rfl
theorem mul_bound {x y A B : Int} (h1 : -A ≤ x) (h2 : x ≤ A) (h3 : -B ≤ y) (h4 : y ≤ B) : -(A * B) ≤ x * y ∧ x * y ≤ A * B := by
  have hx : x.natAbs ≤ A.toNat := by omega
  have hy : y.natAbs ≤ B.toNat := by omega
  have h := Nat.mul_le_mul hx hy
  rw [← Int.natAbs_mul] at h
  have e : ((A.toNat * B.toNat : Nat) : Int) = A * B := by
    rw [Int.natCast_mul, Int.toNat_of_nonneg (by omega), Int.toNat_of_nonneg (by omega)]
  omega
theorem okQ_mul {a b : Q} (ha : okQ a = true) (hb : okQ b = true) :
    (-1152921504606846976 ≤ a.1 * b.2 ∧ a.1 * b.2 ≤ 1152921504606846976) ∧ (-1152921504606846976 ≤ b.1 * a.2 ∧ b.1 * a.2 ≤ 1152921504606846976) ∧ (-1152921504606846976 ≤ a.2 * b.2 ∧ a.2 * b.2 ≤ 1152921504606846976) ∧ (-1152921504606846976 ≤ a.1 * b.1 ∧ a.1 * b.1 ≤ 1152921504606846976) ∧ (-1152921504606846976 ≤ a.2 * b.1 ∧ a.2 * b.1 ≤ 1152921504606846976) := by
  have h1 := okQ_bounds ha
  have h2 := okQ_bounds hb
  exact ⟨mul_bound (A := 1073741824) (B := 1073741824) (by omega) (by omega) (by omega) (by omega), mul_bound (A := 1073741824) (B := 1073741824) (by omega) (by omega) (by omega) (by omega), mul_bound (A := 1073741824) (B := 1073741824) (by omega) (by omega) (by omega) (by omega), mul_bound (A := 1073741824) (B := 1073741824) (by omega) (by omega) (by omega) (by omega), mul_bound (A := 1073741824) (B := 1073741824) (by omega) (by omega) (by omega) (by omega)⟩
theorem add_ev {a b : Q} (ha : I64Q a) (hb : I64Q b) : Ev (fun k => ratio_Add.f k a.1 a.2 b.1 b.2) (addQ a b) := by
  unfold ratio_Add.f addQ
  refine Ev.bind (is_ev ha) ?_
  by_cases c : okQ a = true
  · rw [if_pos c]
    refine ev_pos c (Ev.bind (is_ev hb) ?_)
    by_cases c2 : okQ b = true
    · rw [if_pos c2]
      have m := okQ_mul c c2
      rw [w64 (n := a.1 * b.2) (by unfold I64; omega), w64 (n := b.1 * a.2) (by unfold I64; omega), w64 (n := a.1 * b.2 + b.1 * a.2) (by unfold I64; omega), w64 (n := a.2 * b.2) (by unfold I64; omega)]
      exact ev_pos c2 (Ev.bind (make_ev (by unfold I64; omega) (by unfold I64; omega)) (ev_const rfl))
    · rw [if_neg c2]; exact ev_neg c2 (ev_const rfl)
  · rw [if_neg c]; exact ev_neg c (ev_const rfl)
theorem radd_ev {a b : Q} (ha : I64Q a) (hb : I64Q b) : Ev (fun k => serinetteref01_Add.f k a.1 a.2 b.1 b.2) (addQ a b) := by
  unfold serinetteref01_Add.f addQ
  refine Ev.bind (rboth_ev ha hb) ?_
  by_cases c : okQ a = true
  · rw [if_pos c]
    by_cases c2 : okQ b = true
    · rw [if_pos c2]
      have m := okQ_mul c c2
      rw [w64 (n := a.1 * b.2) (by unfold I64; omega), w64 (n := b.1 * a.2) (by unfold I64; omega), w64 (n := a.1 * b.2 + b.1 * a.2) (by unfold I64; omega), w64 (n := a.2 * b.2) (by unfold I64; omega)]
      exact ev_pos (by rw [c, c2]; rfl) (Ev.bind (rmake_ev (by unfold I64; omega) (by unfold I64; omega)) (ev_const rfl))
    · rw [if_neg c2]; exact ev_neg (by rw [c]; simpa using c2) (ev_const rfl)
  · rw [if_neg c]; exact ev_neg (by simp [c]) (ev_const rfl)
theorem mul_ev {a b : Q} (ha : I64Q a) (hb : I64Q b) : Ev (fun k => ratio_Mul.f k a.1 a.2 b.1 b.2) (mulQ a b) := by
  unfold ratio_Mul.f mulQ
  refine Ev.bind (is_ev ha) ?_
  by_cases c : okQ a = true
  · rw [if_pos c]
    refine ev_pos c (Ev.bind (is_ev hb) ?_)
    by_cases c2 : okQ b = true
    · rw [if_pos c2]
      have m := okQ_mul c c2
      rw [w64 (n := a.1 * b.1) (by unfold I64; omega), w64 (n := a.2 * b.2) (by unfold I64; omega)]
      exact ev_pos c2 (Ev.bind (make_ev (by unfold I64; omega) (by unfold I64; omega)) (ev_const rfl))
    · rw [if_neg c2]; exact ev_neg c2 (ev_const rfl)
  · rw [if_neg c]; exact ev_neg c (ev_const rfl)
theorem rwhole_ev {n : Int} (h : I64 n) : Ev (fun k => serinetteref01_Whole.f k n) (mk n 1) := by
  unfold serinetteref01_Whole.f
  exact Ev.bind (rmake_ev h (by unfold I64; omega)) (ev_const rfl)
theorem rmul_ev {a b : Q} (ha : I64Q a) (hb : I64Q b) : Ev (fun k => serinetteref01_Mul.f k a.1 a.2 b.1 b.2) (mulQ a b) := by
  unfold serinetteref01_Mul.f mulQ
  refine Ev.bind (rboth_ev ha hb) ?_
  by_cases c : okQ a = true
  · rw [if_pos c]
    by_cases c2 : okQ b = true
    · rw [if_pos c2]
      have m := okQ_mul c c2
      rw [w64 (n := a.1 * b.1) (by unfold I64; omega), w64 (n := a.2 * b.2) (by unfold I64; omega)]
      exact ev_pos (by rw [c, c2]; rfl) (Ev.bind (rmake_ev (by unfold I64; omega) (by unfold I64; omega)) (ev_const rfl))
    · rw [if_neg c2]; exact ev_neg (by rw [c]; simpa using c2) (ev_const rfl)
  · rw [if_neg c]; exact ev_neg (by simp [c]) (ev_const rfl)
theorem neg_ev {a : Q} (ha : I64Q a) : Ev (fun k => ratio_Neg.f k a.1 a.2) (negQ a) := by
  unfold ratio_Neg.f negQ
  refine Ev.bind (is_ev ha) (ev_ite (fun c => ev_const ?_) (fun _ => ev_const rfl))
  have := okQ_bounds c
  rw [w64 (by unfold I64; omega)]
theorem rneg_ev {a : Q} (ha : I64Q a) : Ev (fun k => serinetteref01_Neg.f k a.1 a.2) (negQ a) := by
  unfold serinetteref01_Neg.f negQ
  refine Ev.bind (ris_ev ha) (ev_ite (fun c => ev_const ?_) (fun _ => ev_const rfl))
  have := okQ_bounds c
  rw [w64 (by unfold I64; omega)]
theorem sub_ev {a b : Q} (ha : I64Q a) (hb : I64Q b) : Ev (fun k => ratio_Sub.f k a.1 a.2 b.1 b.2) (subQ a b) := by
  unfold ratio_Sub.f subQ
  exact Ev.bind (neg_ev hb) (Ev.bind (add_ev ha (negQ_I64 b)) (ev_const rfl))
theorem rsub_ev {a b : Q} (ha : I64Q a) (hb : I64Q b) : Ev (fun k => serinetteref01_Sub.f k a.1 a.2 b.1 b.2) (subQ a b) := by
  unfold serinetteref01_Sub.f subQ
  exact Ev.bind (rneg_ev hb) (Ev.bind (radd_ev ha (negQ_I64 b)) (ev_const rfl))
theorem clean_mk (n d : Int) : cleanQ (mk n d) = mk n d := by
  unfold cleanQ
  by_cases h : okQ (mk n d) = true
  · rw [if_pos h]
  · rw [if_neg h]
    by_cases hd : d = 0
    · subst hd; rw [mk_zero_den]
    · rcases mk_told n d hd with ⟨e, _⟩ | ⟨e, _⟩
      · exact e.symm
      · exact absurd e h
theorem clean_add (a b : Q) : cleanQ (addQ a b) = addQ a b := by
  unfold addQ
  split
  · split
    · exact clean_mk _ _
    · rfl
  · rfl
theorem clean_mul (a b : Q) : cleanQ (mulQ a b) = mulQ a b := by
  unfold mulQ
  split
  · split
    · exact clean_mk _ _
    · rfl
  · rfl
theorem clean_sub (a b : Q) : cleanQ (subQ a b) = subQ a b := clean_add _ _
theorem subQ_I64 (a b : Q) : I64Q (subQ a b) := addQ_I64 _ _
theorem I64Q_01 : I64Q (0, 1) := by unfold I64Q I64; simp
theorem I64Q_11 : I64Q (1, 1) := by unfold I64Q I64; simp
theorem I64Q_ok {a : Q} (h : okQ a = true) : I64Q a := by have := okQ_bounds h; unfold I64Q I64; omega
def nextA (c s x : Q) (t : Nat) (a b : Q) : Q := if t = 0 then addQ (subQ (mulQ c a) (mulQ s b)) x else subQ (mulQ c a) (mulQ s b)
def nextB (c s a b : Q) : Q := addQ (mulQ s a) (mulQ c b)
theorem nextA_I64 (c s x : Q) (t : Nat) (a b : Q) : I64Q (nextA c s x t a b) := by
  unfold nextA
  split
  · exact addQ_I64 _ _
  · exact subQ_I64 _ _
def toS (q : Q) : S23 := ⟨q.1, q.2⟩
def turns (c s x : Q) : Nat → Nat → Q → Q → List S23
  | 0, _, _, _ => []
  | d + 1, t, a, b => toS (nextB c s a b) :: turns c s x d (t + 1) (nextA c s x t a b) (nextB c s a b)
theorem turns_len (c s x : Q) : ∀ d t a b, (turns c s x d t a b).length = d
  | 0, _, _, _ => rfl
  | d + 1, t, a, b => by simp [turns, turns_len c s x d]
theorem plain_ev {a : Q} (ha : I64Q a) : Ev (fun k => ops_Plain.f k a.1 a.2) (cleanQ a) := by
  unfold ops_Plain.f cleanQ
  exact Ev.bind (is_ev ha) (ev_ite (fun _ => ev_const rfl) (fun _ => ev_const rfl))
theorem at_ev {x : Q} (hx : I64Q x) (t : Nat) (ht : t ≤ 1000) : Ev (fun k => model_at.f k [toS x] (t : Int)) (if t = 0 then cleanQ x else (0, 1)) := by
  unfold model_at.f
  by_cases h : t = 0
  · subst h
    refine ev_pos (by simp) (ev_pos (by simp) ?_)
    exact Ev.bind (plain_ev hx) (ev_const rfl)
  · rw [if_neg h]
    refine ev_neg (by simp; omega) (ev_const rfl)
def modeS (c s : Q) : S35 := ⟨toS c, toS s, ⟨1, 1⟩, ⟨1, 1⟩⟩
theorem ring_l1 {c s x : Q} (hc : I64Q c) (hs : I64Q s) (hx : okQ x = true) : ∀ (d t : Nat) (a b : Q) (out : List S23), I64Q a → I64Q b → t + d ≤ 1000 → out.length + d ≤ 1000 →
    Ev (fun k => model_Ring.l1 k [modeS c s] [toS x] [toS a] [toS b] out ((t + d : Nat) : Int) (t : Int)) (out ++ turns c s x d t a b, 0) := by
  intro d
  induction d with
  | zero =>
    intro t a b out ha hb ht ho
    refine Ev.step (fun k => model_Ring.l1.eq_2 ..) (ev_neg (by omega) (ev_const ?_))
    simp [turns]
  | succ d ih =>
    intro t a b out ha hb ht ho
    refine Ev.step (fun k => model_Ring.l1.eq_2 ..) (ev_pos (by omega) ?_)
    refine Ev.bind (g := fun _ => ops_Zero.f) (a := (0, 1)) (ev_const rfl) ?_
    refine Ev.step (fun k => model_Ring.l2.eq_2 ..) (ev_pos (by simp) (ev_pos (by simp) (ev_pos (by simp) (ev_pos (by simp) ?_))))
    have hm := mulQ_I64
    refine Ev.bind (mul_ev (a := c) (b := a) hc ha) (ev_pos (by simp) ?_)
    refine Ev.bind (mul_ev (a := s) (b := b) hs hb) ?_
    refine Ev.bind (sub_ev (mulQ_I64 c a) (mulQ_I64 s b)) ?_
    refine Ev.bind (mul_ev (a := (1, 1)) I64Q_11 (subQ_I64 _ _)) ?_
    refine Ev.bind (mul_ev (a := s) (b := a) hs ha) ?_
    refine Ev.bind (mul_ev (a := c) (b := b) hc hb) ?_
    refine Ev.bind (add_ev (mulQ_I64 s a) (mulQ_I64 c b)) ?_
    refine Ev.bind (mul_ev (a := (1, 1)) I64Q_11 (addQ_I64 _ _)) ?_
    refine Ev.bind (at_ev (I64Q_ok hx) t (by omega)) ?_
    have eA : addQ (mulQ (1, 1) (subQ (mulQ c a) (mulQ s b))) (if t = 0 then cleanQ x else (0, 1)) = nextA c s x t a b := by
      rw [mulQ_one, clean_sub]
      unfold nextA
      split
      · unfold cleanQ; rw [if_pos hx]
      · rw [addQ_comm, addQ_zero, clean_sub]
    have eB : mulQ (1, 1) (addQ (mulQ s a) (mulQ c b)) = nextB c s a b := by rw [mulQ_one, clean_add]; rfl
    have iB : I64Q (nextB c s a b) := addQ_I64 _ _
    have iX : I64Q (if t = 0 then cleanQ x else (0, 1)) := by
      split
      · unfold cleanQ; rw [if_pos hx]; exact I64Q_ok hx
      · exact I64Q_01
    refine Ev.bind (add_ev (mulQ_I64 _ _) iX) ?_
    rw [eA, eB]
    refine Ev.bind (mul_ev (a := (1, 1)) I64Q_11 iB) ?_
    refine Ev.bind (add_ev (a := (0, 1)) I64Q_01 (mulQ_I64 _ _)) ?_
    have eC : addQ (0, 1) (mulQ (1, 1) (nextB c s a b)) = nextB c s a b := by rw [addQ_zero, clean_mul, mulQ_one]; exact clean_add _ _
    rw [eC]
    rw [show wrap64 (0 + 1) = 1 from by decide +kernel]
    refine Ev.step (fun k => model_Ring.l2.eq_2 ..) (ev_neg (by show ¬ (1 : Int) < 1; decide) (ev_pos (by omega) ?_))
    rw [w64 (n := (t : Int) + 1) (by unfold I64; omega)]
    have h := ih (t + 1) (nextA c s x t a b) (nextB c s a b) (out ++ [toS (nextB c s a b)]) (nextA_I64 _ _ _ _ _ _) iB (by omega) (by simp; omega)
    rw [show t + 1 + d = t + (d + 1) by omega] at h
    simp only [turns, List.append_assoc, List.singleton_append, List.cons_append, List.nil_append] at h ⊢
    exact h
theorem u1 : wrap64 (0 + 1) = 1 := by decide +kernel
theorem u2 : wrap64 (1 + 1) = 2 := by decide +kernel
theorem u3 : wrap64 (2 + 1) = 3 := by decide +kernel
theorem u4 : wrap64 (3 + 1) = 4 := by decide +kernel
theorem good_ev {c s : Q} (hc : okQ c = true) (hs : okQ s = true) : Ev (fun k => model_checkModes.f k [modeS c s]) 0 := by
  have g : Ev (fun k => model_good.f k [(⟨c.1, c.2⟩ : S23), ⟨s.1, s.2⟩, ⟨1, 1⟩, ⟨1, 1⟩]) true := by
    unfold model_good.f
    have o1 : okQ (1, 1) = true := by decide
    show Ev (fun k => model_good.l0 k _ 4 0) true
    refine Ev.step (fun k => model_good.l0.eq_2 ..) (ev_pos (by decide) (ev_pos (by decide) (ev_pos (by show (0 : Int) < 4; decide) (Ev.bind (is_ev (a := c) (I64Q_ok hc)) (ev_pos hc ?_)))))
    rw [u1]
    refine Ev.step (fun k => model_good.l0.eq_2 ..) (ev_pos (by decide) (ev_pos (by decide) (ev_pos (by show (1 : Int) < 4; decide) (Ev.bind (is_ev (a := s) (I64Q_ok hs)) (ev_pos hs ?_)))))
    rw [u2]
    refine Ev.step (fun k => model_good.l0.eq_2 ..) (ev_pos (by decide) (ev_pos (by decide) (ev_pos (by show (2 : Int) < 4; decide) (Ev.bind (is_ev (a := (1, 1)) I64Q_11) (ev_pos o1 ?_)))))
    rw [u3]
    refine Ev.step (fun k => model_good.l0.eq_2 ..) (ev_pos (by decide) (ev_pos (by decide) (ev_pos (by show (3 : Int) < 4; decide) (Ev.bind (is_ev (a := (1, 1)) I64Q_11) (ev_pos o1 ?_)))))
    rw [u4]
    exact Ev.step (fun k => model_good.l0.eq_2 ..) (ev_neg (by decide) (ev_const rfl))
  unfold model_checkModes.f
  show Ev (fun k => model_checkModes.l0 k _ _ 1 0) 0
  refine Ev.step (fun k => model_checkModes.l0.eq_2 ..) (ev_pos (by decide) (ev_pos (by decide) (ev_pos (by show (0 : Int) < 1; decide) (Ev.bind g (ev_pos rfl ?_)))))
  rw [u1]
  exact Ev.step (fun k => model_checkModes.l0.eq_2 ..) (ev_neg (by decide) (ev_neg (by show ¬ (1 : Int) = 0; decide) (ev_neg (by show ¬ (1 : Int) > 40; decide) (ev_const rfl))))
theorem ring_ev {c s x : Q} (hc : okQ c = true) (hs : okQ s = true) (hx : okQ x = true) (n : Nat) (hn : n ≤ 100) : Ev (fun k => model_Ring.f k [modeS c s] [toS x] (n : Int)) (turns c s x n 0 (0, 1) (0, 1), 0) := by
  unfold model_Ring.f
  refine ev_neg (by omega) ?_
  rw [show decide ((n : Int) > 4096) = false from decide_eq_false (by omega)]
  refine Ev.step (fun k => model_Ring.j0.eq_2 ..) (ev_neg (by decide) (Ev.bind (good_ev hc hs) (ev_pos rfl (ev_pos (by show (0 : Int) ≤ 1; decide) (ev_pos (by show 1 ≤ 17592186044416; decide) ?_)))))
  show Ev (fun k => model_Ring.l0 k _ _ _ [z23] [z23] 1 0) _
  refine Ev.step (fun k => model_Ring.l0.eq_2 ..) (ev_pos (by decide) ?_)
  refine Ev.bind (g := fun _ => ops_Zero.f) (a := (0, 1)) (ev_const rfl) (Ev.bind (g := fun _ => ops_Zero.f) (a := (0, 1)) (ev_const rfl) ?_)
  refine ev_pos (by decide) (ev_pos (by decide) (ev_pos (by decide) ?_))
  rw [u1]
  refine Ev.step (fun k => model_Ring.l0.eq_2 ..) (ev_neg (by decide) ?_)
  have h := ring_l1 (I64Q_ok hc) (I64Q_ok hs) hx n 0 (0, 1) (0, 1) [] I64Q_01 I64Q_01 (by omega) (by simp; omega)
  rw [Nat.zero_add] at h
  exact h
theorem awake_ev : Ev (fun k => serinettelaw25_awake.f k) true :=
  Ev.of serinettelaw25_awake.mono (k := 60) (by decide +kernel)
theorem zero_mul {c : Q} (hc : okQ c = true) : mulQ c (0, 1) = (0, 1) := by
  have := okQ_pos hc
  have e : mulQ c (0, 1) = mk (c.1 * 0) (c.2 * 1) := by unfold mulQ; rw [if_pos hc, if_pos (by decide)]
  rw [e]
  exact mk_of_val (by omega) (by decide) (by simp)
theorem rd_turns {pre l : List S23} {y : S23} {i : Int} (hi : i = pre.length) : rd_T23 (pre ++ y :: l) i = y := by
  subst hi
  unfold rd_T23
  simp [List.getD_eq_getElem?_getD]
theorem ne_pair {a b : Q} (h : a = b) : ¬ ((!(a.1 == b.1) || !(a.2 == b.2)) = true) := by subst h; simp
def Told (c s x : Q) (t : Nat) (a b : Q) : Prop := (t = 0 ∧ a = (0, 1) ∧ b = (0, 1)) ∨ (t ≠ 0 ∧ okQ a = true ∧ okQ b = true ∧ Kept x a b)
theorem told_next {c s x a b : Q} {t : Nat} (hu : addQ (mulQ c c) (mulQ s s) = (1, 1)) (hx : okQ x = true) (h : Told c s x t a b) (ha : okQ (nextA c s x t a b) = true) (hb : okQ (nextB c s a b) = true) : Kept x (nextA c s x t a b) (nextB c s a b) := by
  obtain ⟨hc, hs, _⟩ := unit_told hu
  rcases h with ⟨rfl, rfl, rfl⟩ | ⟨ht, h1, h2, k⟩
  · have e1 : nextA c s x 0 (0, 1) (0, 1) = x := by
      unfold nextA
      rw [if_pos rfl, zero_mul hc, zero_mul hs, show subQ (0, 1) (0, 1) = (0, 1) from by decide +kernel, addQ_zero]
      unfold cleanQ; rw [if_pos hx]
    have e2 : nextB c s (0, 1) (0, 1) = (0, 1) := by
      unfold nextB
      rw [zero_mul hc, zero_mul hs]
      decide +kernel
    rw [e1, e2]
    exact kept_first
  · unfold nextA at ha ⊢
    rw [if_neg ht] at ha ⊢
    exact kept_turn hu k ha hb
theorem law_l0 {c s x : Q} (hu : addQ (mulQ c c) (mulQ s s) = (1, 1)) (hx : okQ x = true) (n : Nat) (hn : n ≤ 100) : ∀ (d t : Nat) (a b : Q) (pre : List S23), t + d = n → pre.length = t → Told c s x t a b →
    Ev (fun k => serinettelaw25_TurnsKept.l0 k (pre ++ turns c s x d t a b) (n : Int) (t : Int) c.1 c.2 s.1 s.2 x.1 x.2 a.1 a.2 b.1 b.2) true := by
  obtain ⟨hc, hs, _⟩ := unit_told hu
  have ic := I64Q_ok hc
  have is := I64Q_ok hs
  have ix := I64Q_ok hx
  intro d
  induction d with
  | zero =>
    intro t a b pre ht hp hT
    exact Ev.step (fun k => serinettelaw25_TurnsKept.l0.eq_2 ..) (ev_neg (by omega) (Ev.bind awake_ev (ev_const rfl)))
  | succ d ih =>
    intro t a b pre ht hp hT
    have iab : I64Q a ∧ I64Q b := by
      rcases hT with ⟨_, rfl, rfl⟩ | ⟨_, h1, h2, _⟩
      · exact ⟨I64Q_01, I64Q_01⟩
      · exact ⟨I64Q_ok h1, I64Q_ok h2⟩
    obtain ⟨ia, ib⟩ := iab
    have iA : I64Q (nextA c s x t a b) := nextA_I64 _ _ _ _ _ _
    have iB : I64Q (nextB c s a b) := addQ_I64 _ _
    refine Ev.step (fun k => serinettelaw25_TurnsKept.l0.eq_2 ..) (ev_pos (by omega) (ev_pos (by omega) (ev_pos (by simp [turns_len]; omega) ?_)))
    simp only [turns]
    rw [rd_turns (pre := pre) (by omega)]
    have J : Ev (fun k => serinettelaw25_TurnsKept.j2 k (pre ++ toS (nextB c s a b) :: turns c s x d (t + 1) (nextA c s x t a b) (nextB c s a b)) (n : Int) (t : Int) c.1 c.2 s.1 s.2 x.1 x.2 (nextA c s x t a b).1 (nextA c s x t a b).2 (nextB c s a b).1 (nextB c s a b).2 (nextB c s a b).1 (nextB c s a b).2) true := by
      have stop : ∀ (l : List S23) (y0 y1 y2 y3 y4 y5 : Int), Ev (fun k => serinettelaw25_TurnsKept.j3 k l (n : Int) (t : Int) true c.1 c.2 s.1 s.2 x.1 x.2 y0 y1 y2 y3 y4 y5) true := fun l y0 y1 y2 y3 y4 y5 =>
        Ev.step (fun k => serinettelaw25_TurnsKept.j3.eq_2 ..) (ev_pos rfl (Ev.bind awake_ev (ev_const rfl)))
      refine Ev.step (fun k => serinettelaw25_TurnsKept.j2.eq_2 ..) (Ev.bind (ris_ev iA) ?_)
      by_cases ha : okQ (nextA c s x t a b) = true
      rotate_left
      · exact ev_neg ha (stop _ _ _ _ _ _ _)
      refine ev_pos ha (Ev.bind (ris_ev iB) ?_)
      by_cases hb : okQ (nextB c s a b) = true
      rotate_left
      · exact ev_neg hb (stop _ _ _ _ _ _ _)
      refine ev_pos hb (Ev.bind (ris_ev iB) ?_)
      rw [hb]
      have k := told_next hu hx hT ha hb
      have on : Ev (fun k => serinettelaw25_TurnsKept.l0 k (pre ++ toS (nextB c s a b) :: turns c s x d (t + 1) (nextA c s x t a b) (nextB c s a b)) (n : Int) (wrap64 ((t : Int) + 1)) c.1 c.2 s.1 s.2 x.1 x.2 (nextA c s x t a b).1 (nextA c s x t a b).2 (nextB c s a b).1 (nextB c s a b).2) true := by
        rw [w64 (n := (t : Int) + 1) (by unfold I64; omega)]
        have h := ih (t + 1) (nextA c s x t a b) (nextB c s a b) (pre ++ [toS (nextB c s a b)]) (by omega) (by simp; omega) (.inr ⟨by omega, ha, hb, k⟩)
        simp only [List.append_assoc, List.singleton_append, List.cons_append, List.nil_append] at h
        exact h
      refine Ev.step (fun k => serinettelaw25_TurnsKept.j3.eq_2 ..) (ev_neg (by decide) ?_)
      refine Ev.bind (rmul_ev iA iA) (Ev.bind (rmul_ev iB iB) (Ev.bind (radd_ev (mulQ_I64 _ _) (mulQ_I64 _ _)) ?_))
      refine ev_neg (ne_pair rfl) (Ev.bind (ris_ev (addQ_I64 _ _)) ?_)
      by_cases hz : okQ (addQ (mulQ (nextA c s x t a b) (nextA c s x t a b)) (mulQ (nextB c s a b) (nextB c s a b))) = true
      · refine ev_pos hz (Ev.bind (rmul_ev ix ix) (ev_neg (ne_pair (kept_size hx k hz)) on))
      · exact ev_neg hz on
    refine Ev.bind (rmul_ev ic ia) (Ev.bind (rmul_ev is ib) (Ev.bind (rsub_ev (mulQ_I64 _ _) (mulQ_I64 _ _)) (Ev.bind (rmul_ev is ia) (Ev.bind (rmul_ev ic ib) (Ev.bind (radd_ev (mulQ_I64 _ _) (mulQ_I64 _ _)) ?_)))))
    by_cases h0 : t = 0
    · refine ev_pos (by omega) (Ev.bind (radd_ev (subQ_I64 _ _) ix) ?_)
      have e : nextA c s x t a b = addQ (subQ (mulQ c a) (mulQ s b)) x := by unfold nextA; rw [if_pos h0]
      rw [e] at J ⊢
      exact J
    · refine ev_neg (by omega) ?_
      have e : nextA c s x t a b = subQ (mulQ c a) (mulQ s b) := by unfold nextA; rw [if_neg h0]
      rw [e] at J ⊢
      exact J
theorem pure {c s x : Q} (ic : I64Q c) (is : I64Q s) (ix : I64Q x) (n : Int) : Ev (fun k => serinettelaw25_TurnsKept.f k c.1 c.2 s.1 s.2 x.1 x.2 n) true := by
  have stop : Ev (fun k => serinettelaw25_TurnsKept.j0 k n true c.1 c.2 s.1 s.2 x.1 x.2) true :=
    Ev.step (fun k => serinettelaw25_TurnsKept.j0.eq_2 ..) (ev_pos rfl (Ev.bind awake_ev (ev_const rfl)))
  unfold serinettelaw25_TurnsKept.f
  by_cases h1 : n < 2
  · exact ev_pos h1 stop
  refine ev_neg h1 ?_
  by_cases h2 : n > 6
  · exact ev_pos h2 stop
  refine ev_neg h2 (Ev.bind (ris_ev ic) ?_)
  by_cases hc : okQ c = true
  rotate_left
  · exact ev_neg hc stop
  refine ev_pos hc (Ev.bind (ris_ev is) ?_)
  by_cases hs : okQ s = true
  rotate_left
  · exact ev_neg hs stop
  refine ev_pos hs (Ev.bind (ris_ev ix) ?_)
  by_cases hx : okQ x = true
  rotate_left
  · exact ev_neg hx stop
  have w1 : mk 1 1 = (1, 1) := by decide +kernel
  have w0 : mk 0 1 = (0, 1) := by decide +kernel
  refine ev_pos hx (Ev.bind (rmul_ev ic ic) (Ev.bind (rmul_ev is is) (Ev.bind (radd_ev (mulQ_I64 _ _) (mulQ_I64 _ _)) (Ev.bind (rwhole_ev (n := 1) (by unfold I64; omega)) ?_))))
  rw [w1]
  by_cases hu : addQ (mulQ c c) (mulQ s s) = (1, 1)
  rotate_left
  · have e : (!((addQ (mulQ c c) (mulQ s s)).1 == 1) || !((addQ (mulQ c c) (mulQ s s)).2 == 1)) = true := by
      generalize addQ (mulQ c c) (mulQ s s) = z at *
      obtain ⟨z1, z2⟩ := z
      simp only [Prod.mk.injEq] at hu
      by_cases h : z1 = 1 <;> by_cases h' : z2 = 1 <;> simp_all
    simp only [e]
    exact stop
  simp only [hu]
  refine Ev.step (fun k => serinettelaw25_TurnsKept.j0.eq_2 ..) (ev_neg (by decide) ?_)
  refine Ev.bind (rwhole_ev (n := 1) (by unfold I64; omega)) (Ev.bind (rwhole_ev (n := 1) (by unfold I64; omega)) ?_)
  rw [w1]
  obtain ⟨m, rfl⟩ : ∃ m : Nat, n = m := ⟨n.toNat, by omega⟩
  refine Ev.bind (ring_ev hc hs hx m (by omega)) (ev_pos rfl ?_)
  refine Ev.bind (rwhole_ev (n := 0) (by unfold I64; omega)) (Ev.bind (rwhole_ev (n := 0) (by unfold I64; omega)) ?_)
  rw [w0]
  have h := law_l0 hu hx m (by omega) m 0 (0, 1) (0, 1) [] (by omega) rfl (.inl ⟨rfl, rfl, rfl⟩)
  simp only [turns_len]
  exact h
end Go.Proofs.Ytcgohbhligdicaa.STurnsKept
namespace Go.Proofs.Ytcgohbhligdicaa.Fit
open Go.ChangeShapes Go.WideShapes Go.Deep Go.Proofs.Ytcgohbhligdicaa.Wd.PrintWords
structure Fit (P : Program) (t : TypeId) {α : Type} (k : Kd α) (good : α → Prop) : Prop where
  sz : P.cellsOf t = k.sz
  take : ∀ {H : Type} {enc : TypeId × Value → H} {w : World} {base : Nat} {spare : Nat → Bool} {held : Bool} {fuel : Nat} {cs : List Value} {x : DataW H × List MemPlace},
    DataW.trod enc P w base spare held fuel t cs = some x → (∀ n ∈ x.1.weights P t, n ≤ 140737488351232) → ∃ a, k.K w a cs ∧ good a
theorem Fit.int {P : Program} {t : TypeId} {k : IntKind} (ht : P.underlying t = some (.int k)) (hs : P.cellsOf t = 1) : Fit P t (Kd.int k) (fun n => (Lit.int k n).wf = true) :=
  ⟨hs, fun h _ => by
    obtain ⟨n, rfl, _, hw⟩ := DataW.trod_int ht h
    exact ⟨n, rfl, hw⟩⟩
theorem Fit.bool {P : Program} {t : TypeId} (ht : P.underlying t = some .bool) (hs : P.cellsOf t = 1) : Fit P t Kd.bool (fun _ => True) :=
  ⟨hs, fun h _ => by
    obtain ⟨n, rfl, _⟩ := DataW.trod_bool ht h
    exact ⟨n, rfl, trivial⟩⟩
theorem Fit.iso {P : Program} {t : TypeId} {α β : Type} {k : Kd α} {good : α → Prop} (h : Fit P t k good) (f : β → α) (g : α → β) (hfg : ∀ a, f (g a) = a) : Fit P t (Kd.iso k f) (fun b => good (f b)) :=
  ⟨h.sz, fun ht hw => by
    obtain ⟨a, hk, hg⟩ := h.take ht hw
    refine ⟨g a, ?_, ?_⟩
    · show k.K _ (f (g a)) _
      rw [hfg]; exact hk
    · show good (f (g a))
      rw [hfg]; exact hg⟩
theorem weightsAll_mem {H : Type} {P : Program} {e : TypeId} : ∀ {ds : List (DataW H)} {d : DataW H}, d ∈ ds → ∀ n ∈ d.weights P e, n ∈ DataW.weightsAll P e ds
  | [], _, h, _, _ => by cases h
  | d0 :: ds, d, h, n, hn => by
    simp only [DataW.weightsAll, List.mem_append]
    rcases List.mem_cons.1 h with rfl | h
    · exact .inl hn
    · exact .inr (weightsAll_mem h n hn)
theorem Fit.slice {P : Program} {t e : TypeId} {α : Type} {k : Kd α} {good : α → Prop} {B : Nat} (ht : P.underlying t = some (.slice e)) (hs : P.cellsOf t = 1) (he : Fit P e k good) (hB : P.bytesOf e = B) :
    Fit P t (Kd.slice e k) (fun xs => xs.length * B ≤ 140737488351232 ∧ ∀ x ∈ xs, good x) :=
  ⟨hs, fun {H enc w base spare held fuel cs x} h hw => by
    rcases open_slice ht h with ⟨rfl, rfl⟩ | ⟨a, len, cap, m, n, D, Pl, rfl, hb, hl, hm, hmm, rfl, hi⟩
    · exact ⟨[], ⟨none, 0, rfl, Nat.le_refl _, Kd.C_nil _ _⟩, by simp, fun x hx => by cases hx⟩
    · have hlm : len ≤ m := by rw [hmm]; split <;> omega
      have hwt : ∀ n ∈ DataW.weights P t (.slice ((List.range len).map D) ((List.range (m - len)).map fun j => D (len + j))), n ≤ 140737488351232 := hw
      have hel : ∀ i, i < len → ∃ (p : α), ∃ c, w.cells? base (a.add (i * P.cellsOf e)) (P.cellsOf e) = some c ∧ k.K w p c ∧ good p := by
        intro i hlt
        obtain ⟨c, hc, hT⟩ := hi i (by omega)
        obtain ⟨p, hp, hg⟩ := he.take hT (by
          intro q hq
          refine hwt q ?_
          simp only [DataW.weights, ht, List.mem_cons, List.mem_append]
          exact .inr (.inl (weightsAll_mem (List.mem_map.2 ⟨i, List.mem_range.2 hlt, rfl⟩) q hq)))
        exact ⟨p, c, hc, hp, hg⟩
      have hch : ∃ xs : List α, xs.length = len ∧ ∀ (i : Nat) (p : α), xs[i]? = some p → ∃ c, w.cells? base (a.add (i * P.cellsOf e)) (P.cellsOf e) = some c ∧ k.K w p c ∧ good p := by
        clear hwt hw h hi hl hm hmm hlm
        induction len with
        | zero => exact ⟨[], rfl, fun i p hp => by simp at hp⟩
        | succ len ih =>
          obtain ⟨xs, hx, hxs⟩ := ih (fun i hi => hel i (Nat.lt_succ_of_lt hi))
          obtain ⟨p, hp⟩ := hel len (Nat.lt_succ_self _)
          refine ⟨xs ++ [p], by simp [hx], fun i q hq => ?_⟩
          by_cases hil : i < xs.length
          · rw [List.getElem?_append_left hil] at hq
            exact hxs i q hq
          · have hlt : i < (xs ++ [p]).length := (List.getElem?_eq_some_iff.1 hq).1
            simp at hlt
            obtain rfl : i = xs.length := by omega
            simp at hq
            subst hq
            rw [hx]
            exact hp
      obtain ⟨xs, hx, hxs⟩ := hch
      refine ⟨xs, ⟨some a, cap, by rw [hx], by rw [hx]; exact hl, ?_⟩, ?_, ?_⟩
      · refine ⟨rfl, by simp only [maxLen] at hm; omega, fun _ => ⟨a, rfl, fun j p hj => ?_⟩⟩
        obtain ⟨c, hc, hk, _⟩ := hxs j p hj
        have hck := k.K_len hk
        obtain ⟨_, hcl, hat⟩ := World.cells?_some hc
        refine ⟨c, hck, hk, fun i u hu => ?_⟩
        have hi' : i < c.length := (List.getElem?_eq_some_iff.1 hu).1
        have h1 := hat (i := i) (by rw [← he.sz] at hck; omega)
        rw [Deep.add_add] at h1
        rw [← he.sz, h1, hu]
      · have h1 : (len + (m - len)) * P.bytesOf e ≤ 140737488351232 := hwt _ (by simp [DataW.weights, ht])
        rw [hB] at h1
        rw [hx]
        exact Nat.le_trans (Nat.mul_le_mul_right _ (by omega)) h1
      · intro x hx'
        obtain ⟨i, hi', rfl⟩ := List.getElem_of_mem hx'
        obtain ⟨c, _, _, hg⟩ := hxs i _ (List.getElem?_eq_getElem hi')
        exact hg⟩
structure FitF (P : Program) (fs : List Field) (off : Nat) {α : Type} (k : Kd α) (good : α → Prop) : Prop where
  take : ∀ {H : Type} {enc : TypeId × Value → H} {w : World} {base : Nat} {spare : Nat → Bool} {held : Bool} {fuel : Nat} {cs : List Value} {xs : List (DataW H × List MemPlace)},
    xs.length = fs.length → (∀ (i : Nat) (f : Field), fs[i]? = some f → DataW.trod enc P w base spare held fuel f.type ((cs.drop f.offset).take (P.cellsOf f.type)) = xs[i]?) →
    cs.length = off + k.sz → (∀ n ∈ DataW.weightsEach P (fs.map (·.type)) (xs.map (·.1)), n ≤ 140737488351232) → ∃ a, k.K w a (cs.drop off) ∧ good a
theorem FitF.last {P : Program} {f : Field} {off : Nat} {α : Type} {k : Kd α} {good : α → Prop} (hf : Fit P f.type k good) (ho : f.offset = off) : FitF P [f] off k good :=
  ⟨fun {H enc w base spare held fuel cs xs} hl h hc hw => by
    match xs, hl with
    | [y], _ =>
      have h0 := h 0 f rfl
      rw [ho, hf.sz, List.take_of_length_le (by rw [List.length_drop]; omega)] at h0
      exact hf.take (x := y) h0 (fun n hn => hw n (by simp [DataW.weightsEach]; exact hn))⟩
theorem FitF.cons {P : Program} {f : Field} {fs : List Field} {off : Nat} {α β : Type} {k : Kd α} {k' : Kd β} {good : α → Prop} {good' : β → Prop} (hf : Fit P f.type k good) (ho : f.offset = off) (hfs : FitF P fs (off + k.sz) k' good') :
    FitF P (f :: fs) off (Kd.pair k k') (fun x => good x.1 ∧ good' x.2) :=
  ⟨fun {H enc w base spare held fuel cs xs} hl h hc hw => by
    match xs, hl with
    | y :: ys, hl =>
      have hc' : cs.length = off + (k.sz + k'.sz) := hc
      have h0 := h 0 f rfl
      rw [ho, hf.sz] at h0
      obtain ⟨a, ha, hga⟩ := hf.take (x := y) h0 (fun n hn => hw n (by simp only [List.map_cons, DataW.weightsEach, List.mem_append]; exact .inl hn))
      obtain ⟨b, hb, hgb⟩ := hfs.take (xs := ys) (by simpa using hl) (fun i g hg => by have := h (i + 1) g (by simpa using hg); simpa using this) (by omega)
        (fun n hn => hw n (by simp only [List.map_cons, DataW.weightsEach, List.mem_append]; exact .inr hn))
      refine ⟨(a, b), ⟨(cs.drop off).take k.sz, cs.drop (off + k.sz), ?_, ha, hb⟩, hga, hgb⟩
      rw [← List.drop_drop, List.take_append_drop]⟩
theorem Fit.struct {P : Program} {t : TypeId} {fs : Array Field} {α : Type} {k : Kd α} {good : α → Prop} (ht : P.underlying t = some (.struct fs)) (hs : P.cellsOf t = k.sz) (hf : FitF P fs.toList 0 k good) : Fit P t k good :=
  ⟨hs, fun {H enc w base spare held fuel cs x} h hw => by
    obtain ⟨xs, n, rfl, rfl, hc, hl, hg⟩ := DataW.trod_struct ht h
    have := hf.take (xs := xs) (by simpa using hl) (fun i f hi => hg i f (by simpa using hi)) (by rw [hc, hs]; omega) (fun q hq => hw q (by simpa [DataW.weights, ht] using hq))
    simpa using this⟩
theorem Fit.param {P : Program} {t : TypeId} {α : Type} {k : Kd α} {good : α → Prop} (hf : Fit P t k good) {H : Type} {enc : TypeId × Value → H} {w : World} {base : Nat} {spare : Nat → Bool} {held : Bool} {v : Value} {d : DataW H} {ps : List MemPlace}
    {ts : List TypeId} {ds : List (DataW H)} {j : Nat} (hsz : (DataW.weightsEach P ts ds).all (· ≤ reachBytes) = true) (hj : ts[j]? = some t) (hd : ds[j]? = some d) (h : DataW.Trod enc P w base spare held t v d ps) :
    ∃ a, k.K w a v.cells.toList ∧ good a := by
  obtain ⟨fuel, h⟩ := h
  refine hf.take h fun n hn => ?_
  have := List.all_eq_true.1 hsz _ (DataW.weights_mem_each hj hd n hn)
  exact of_decide_eq_true this
end Go.Proofs.Ytcgohbhligdicaa.Fit
