/- Parts of the proof of SpanMakes, joined by program out of this session's own texts. -/
import Derived.Test.YtlibjgmnookakaaDoorProg
import Derived.ChangeArms
import Derived.ChangeSame
import Derived.Deep.Slices
import Derived.OpenShut
import Derived.SizedLaws
import Derived.WideShapes
import Derived.Test.YtlibjgmnookakaaDoorZWd
set_option linter.unusedVariables false
set_option linter.unusedSimpArgs false
namespace Go.Proofs.YtlibjgmnookakaaDoor.Plain
open Go.RowKit
def isQ (n d : Int) : Bool := decide (1 ≤ d ∧ d ≤ 1073741824 ∧ -1073741824 ≤ n ∧ n ≤ 1073741824 ∧ Nat.gcd n.natAbs d.natAbs = 1)
def mk (n d : Int) : Int × Int :=
  if d = 0 then (0, 0) else
  if 1073741824 < n.natAbs / Nat.gcd n.natAbs d.natAbs ∨ 1073741824 < d.natAbs / Nat.gcd n.natAbs d.natAbs then (0, 0) else
  (if n < 0 ↔ d < 0 then ((n.natAbs / Nat.gcd n.natAbs d.natAbs : Nat) : Int) else -((n.natAbs / Nat.gcd n.natAbs d.natAbs : Nat) : Int), ((d.natAbs / Nat.gcd n.natAbs d.natAbs : Nat) : Int))
theorem isQ_iff {n d : Int} : isQ n d = true ↔ 1 ≤ d ∧ d ≤ 1073741824 ∧ -1073741824 ≤ n ∧ n ≤ 1073741824 ∧ Nat.gcd n.natAbs d.natAbs = 1 := by simp [isQ]
theorem isQ_false {n d : Int} : isQ n d = false ↔ ¬ (1 ≤ d ∧ d ≤ 1073741824 ∧ -1073741824 ≤ n ∧ n ≤ 1073741824 ∧ Nat.gcd n.natAbs d.natAbs = 1) := by
  rw [← isQ_iff]; simp
theorem mk_zero_den (n : Int) : mk n 0 = (0, 0) := by simp [mk]
theorem coprime_unique {a b c d : Nat} (hb : 0 < b) (hd : 0 < d) (h1 : Nat.gcd a b = 1) (h2 : Nat.gcd c d = 1) (h : a * d = c * b) : a = c ∧ b = d := by
  have e1 : b ∣ d := by
    have : b ∣ a * d := ⟨c, by rw [h, Nat.mul_comm]⟩
    exact Nat.Coprime.dvd_of_dvd_mul_left (by rw [Nat.coprime_iff_gcd_eq_one, Nat.gcd_comm]; exact h1) this
  have e2 : d ∣ b := by
    have : d ∣ c * b := ⟨a, by rw [← h, Nat.mul_comm]⟩
    exact Nat.Coprime.dvd_of_dvd_mul_left (by rw [Nat.coprime_iff_gcd_eq_one, Nat.gcd_comm]; exact h2) this
  have e := Nat.dvd_antisymm e1 e2
  subst e
  exact ⟨Nat.eq_of_mul_eq_mul_right hb h, rfl⟩
theorem gcd_pos_of {n d : Int} (h : d ≠ 0) : 0 < Nat.gcd n.natAbs d.natAbs := Nat.gcd_pos_of_pos_right _ (by omega)
theorem lowest (n d : Nat) (hd : 0 < d) : Nat.gcd (n / Nat.gcd n d) (d / Nat.gcd n d) = 1 ∧ 0 < d / Nat.gcd n d ∧ n = n / Nat.gcd n d * Nat.gcd n d ∧ d = d / Nat.gcd n d * Nat.gcd n d := by
  have hg : 0 < Nat.gcd n d := Nat.gcd_pos_of_pos_right _ hd
  refine ⟨by rw [Nat.gcd_div (Nat.gcd_dvd_left n d) (Nat.gcd_dvd_right n d), Nat.div_self hg], Nat.div_pos (Nat.le_of_dvd hd (Nat.gcd_dvd_right n d)) hg, (Nat.div_mul_cancel (Nat.gcd_dvd_left n d)).symm, (Nat.div_mul_cancel (Nat.gcd_dvd_right n d)).symm⟩
theorem mk_cross {n d n' d' : Int} (hd : d ≠ 0) (hd' : d' ≠ 0) (h : n * d' = n' * d) : mk n d = mk n' d' := by
  obtain ⟨l1, l2, l3, l4⟩ := lowest n.natAbs d.natAbs (by omega)
  obtain ⟨m1, m2, m3, m4⟩ := lowest n'.natAbs d'.natAbs (by omega)
  have hab : n.natAbs * d'.natAbs = n'.natAbs * d.natAbs := by rw [← Int.natAbs_mul, ← Int.natAbs_mul, h]
  have hg := gcd_pos_of (n := n) hd
  have hg' := gcd_pos_of (n := n') hd'
  have hc : n.natAbs / Nat.gcd n.natAbs d.natAbs * (d'.natAbs / Nat.gcd n'.natAbs d'.natAbs) = n'.natAbs / Nat.gcd n'.natAbs d'.natAbs * (d.natAbs / Nat.gcd n.natAbs d.natAbs) := by
    generalize n.natAbs / Nat.gcd n.natAbs d.natAbs = x at *
    generalize d.natAbs / Nat.gcd n.natAbs d.natAbs = y at *
    generalize n'.natAbs / Nat.gcd n'.natAbs d'.natAbs = z at *
    generalize d'.natAbs / Nat.gcd n'.natAbs d'.natAbs = u at *
    generalize Nat.gcd n.natAbs d.natAbs = g at *
    generalize Nat.gcd n'.natAbs d'.natAbs = g' at *
    rw [l3, l4, m3, m4] at hab
    have : (x * u) * (g * g') = (z * y) * (g * g') := by
      calc (x * u) * (g * g') = x * g * (u * g') := by rw [Nat.mul_mul_mul_comm]
        _ = z * g' * (y * g) := hab
        _ = (z * y) * (g * g') := by rw [Nat.mul_mul_mul_comm, Nat.mul_comm g' g]
    exact Nat.eq_of_mul_eq_mul_right (Nat.mul_pos hg hg') this
  obtain ⟨ha, hb⟩ := coprime_unique l2 m2 l1 m1 hc
  unfold mk
  rw [if_neg hd, if_neg hd', ha, hb]
  split
  · rfl
  · congr 1
    by_cases hn : n = 0
    · subst hn
      have : n' = 0 := by
        rw [Int.zero_mul] at h
        rcases Int.mul_eq_zero.1 h.symm with h | h
        · exact h
        · exact absurd h hd
      subst this
      simp
    · have hn' : n' ≠ 0 := by
        intro e
        subst e
        rw [Int.zero_mul] at h
        rcases Int.mul_eq_zero.1 h with h | h
        · exact hn h
        · exact hd' h
      have key : (n < 0 ↔ d < 0) ↔ (n' < 0 ↔ d' < 0) := by
        have p1 : 0 < n * d' ↔ (n < 0 ↔ d' < 0) := by
          rcases Int.lt_or_gt_of_ne hn with a | a <;> rcases Int.lt_or_gt_of_ne hd' with b | b
          · have := Int.mul_pos_of_neg_of_neg a b; omega
          · have := Int.mul_neg_of_neg_of_pos a b; omega
          · have := Int.mul_neg_of_pos_of_neg a b; omega
          · have := Int.mul_pos a b; omega
        have p2 : 0 < n' * d ↔ (n' < 0 ↔ d < 0) := by
          rcases Int.lt_or_gt_of_ne hn' with a | a <;> rcases Int.lt_or_gt_of_ne hd with b | b
          · have := Int.mul_pos_of_neg_of_neg a b; omega
          · have := Int.mul_neg_of_neg_of_pos a b; omega
          · have := Int.mul_neg_of_pos_of_neg a b; omega
          · have := Int.mul_pos a b; omega
        rw [h] at p1
        by_cases a : n < 0 <;> by_cases b : d < 0 <;> by_cases c : n' < 0 <;> by_cases e : d' < 0 <;> simp [a, b, c, e] at p1 p2 ⊢ <;> omega
      by_cases k : n < 0 ↔ d < 0
      · rw [if_pos k, if_pos (key.1 k)]
      · rw [if_neg k, if_neg (fun h => k (key.2 h))]
theorem mk_self {n d : Int} (h : isQ n d = true) : mk n d = (n, d) := by
  obtain ⟨h1, h2, h3, h4, h5⟩ := isQ_iff.1 h
  unfold mk
  rw [if_neg (by omega), h5, Nat.div_one, Nat.div_one, if_neg (by omega)]
  by_cases k : n < 0 ↔ d < 0
  · rw [if_pos k]; congr 1 <;> omega
  · rw [if_neg k]; congr 1 <;> omega
theorem mk_told (n d : Int) (hd : d ≠ 0) : (mk n d = (0, 0) ∧ (1073741824 < n.natAbs / Nat.gcd n.natAbs d.natAbs ∨ 1073741824 < d.natAbs / Nat.gcd n.natAbs d.natAbs)) ∨ (isQ (mk n d).1 (mk n d).2 = true ∧ (mk n d).1 * d = n * (mk n d).2) := by
  obtain ⟨l1, l2, l3, l4⟩ := lowest n.natAbs d.natAbs (by omega)
  unfold mk
  rw [if_neg hd]
  split
  · rename_i hh
    exact .inl ⟨rfl, hh⟩
  · rename_i hh
    right
    generalize n.natAbs / Nat.gcd n.natAbs d.natAbs = x at *
    generalize d.natAbs / Nat.gcd n.natAbs d.natAbs = y at *
    generalize Nat.gcd n.natAbs d.natAbs = g at *
    constructor
    · rw [isQ_iff]
      have hv : ∀ v : Int, v = (x : Int) ∨ v = -(x : Int) → -1073741824 ≤ v ∧ v ≤ 1073741824 ∧ v.natAbs = x := by
        intro v h
        omega
      have hv2 := hv (if n < 0 ↔ d < 0 then (x : Int) else -(x : Int)) (by split <;> simp)
      exact ⟨by omega, by omega, hv2.1, hv2.2.1, by rw [hv2.2.2]; exact l1⟩
    · show (if _ then _ else _) * d = n * (y : Int)
      have e3 : (n.natAbs : Int) = (x : Int) * g := by rw [l3]; simp
      have e4 : (d.natAbs : Int) = (y : Int) * g := by rw [l4]; simp
      have c0 : (x : Int) * ((y : Int) * g) = (x : Int) * g * y := by rw [← Int.mul_assoc, Int.mul_right_comm]
      split
      · rename_i k
        by_cases hn : n < 0
        · have : d < 0 := k.1 hn
          have hd2 : d = -((y : Int) * g) := by omega
          have hn2 : n = -((x : Int) * g) := by omega
          rw [hd2, hn2, Int.mul_neg, Int.neg_mul, c0]
        · have : ¬ d < 0 := fun h => hn (k.2 h)
          have hd2 : d = ((y : Int) * g) := by omega
          have hn2 : n = ((x : Int) * g) := by omega
          rw [hd2, hn2, c0]
      · rename_i k
        by_cases hn : n < 0
        · have : ¬ d < 0 := fun h => k ⟨fun _ => h, fun _ => hn⟩
          have hd2 : d = ((y : Int) * g) := by omega
          have hn2 : n = -((x : Int) * g) := by omega
          rw [hd2, hn2, Int.neg_mul, Int.neg_mul, c0]
        · have : d < 0 := by
            by_cases e : d < 0
            · exact e
            · exact absurd ⟨fun h => absurd h hn, fun h => absurd h e⟩ k
          have hd2 : d = -((y : Int) * g) := by omega
          have hn2 : n = ((x : Int) * g) := by omega
          rw [hd2, hn2, Int.neg_mul, Int.mul_neg, Int.neg_neg, c0]
theorem isQ_unique {n d n' d' : Int} (h : isQ n d = true) (h' : isQ n' d' = true) (e : n * d' = n' * d) : n = n' ∧ d = d' := by
  have h1 := isQ_iff.1 h
  have h2 := isQ_iff.1 h'
  have := mk_cross (by omega) (by omega) e
  rw [mk_self h, mk_self h'] at this
  exact Prod.mk.inj this
end Go.Proofs.YtlibjgmnookakaaDoor.Plain
namespace Go.Proofs.YtlibjgmnookakaaDoor.Plain
open Go.RowKit
abbrev Q := Int × Int
def okQ (a : Q) : Bool := isQ a.1 a.2
def addQ (a b : Q) : Q := if okQ a = true then (if okQ b = true then mk (a.1 * b.2 + b.1 * a.2) (a.2 * b.2) else (0, 0)) else (0, 0)
def cleanQ (a : Q) : Q := if okQ a = true then a else (0, 0)
def sgn (x y : Int) : Int := if x < y then -1 else if x > y then 1 else 0
def cmpQ (a b : Q) : Int := if okQ a = true then (if okQ b = true then sgn (a.1 * b.2) (b.1 * a.2) else 1) else (if okQ b = true then -1 else 0)
def I64 (n : Int) : Prop := -9223372036854775808 ≤ n ∧ n ≤ 9223372036854775807
def I64Q (a : Q) : Prop := I64 a.1 ∧ I64 a.2
theorem okQ_bounds {a : Q} (h : okQ a = true) : 1 ≤ a.2 ∧ a.2 ≤ 1073741824 ∧ -1073741824 ≤ a.1 ∧ a.1 ≤ 1073741824 := by
  have := isQ_iff.1 h
  omega
theorem okQ_mk {n d : Int} (h : okQ (mk n d) = true) : d ≠ 0 ∧ (mk n d).1 * d = n * (mk n d).2 := by
  have hd : d ≠ 0 := by
    intro e
    subst e
    rw [mk_zero_den] at h
    cases h
  rcases mk_told n d hd with ⟨h1, _⟩ | ⟨_, h1⟩
  · rw [h1] at h; cases h
  · exact ⟨hd, h1⟩
end Go.Proofs.YtlibjgmnookakaaDoor.Plain
namespace Go.Proofs.YtlibjgmnookakaaDoor.Plain
theorem addQ_none {a b : Q} (h : ¬ (okQ a = true ∧ okQ b = true)) : addQ a b = (0, 0) := by
  unfold addQ
  by_cases c : okQ a = true <;> by_cases c2 : okQ b = true <;> simp [c, c2] at h ⊢
theorem addQ_val {a b : Q} (h : okQ (addQ a b) = true) : okQ a = true ∧ okQ b = true ∧ (addQ a b).1 * (a.2 * b.2) = (a.1 * b.2 + b.1 * a.2) * (addQ a b).2 := by
  by_cases c : okQ a = true ∧ okQ b = true
  · have e : addQ a b = mk (a.1 * b.2 + b.1 * a.2) (a.2 * b.2) := by unfold addQ; rw [if_pos c.1, if_pos c.2]
    rw [e] at h ⊢
    exact ⟨c.1, c.2, (okQ_mk h).2⟩
  · rw [addQ_none c] at h; cases h
theorem okQ_pos {a : Q} (h : okQ a = true) : 0 < a.2 := by have := okQ_bounds h; omega
theorem val_unique {x y : Q} {n d : Int} (hx : okQ x = true) (hy : okQ y = true) (hd : d ≠ 0) (e1 : x.1 * d = n * x.2) (e2 : y.1 * d = n * y.2) : x = y := by
  have : x.1 * y.2 = y.1 * x.2 := by
    apply Int.eq_of_mul_eq_mul_right hd
    grind
  have := isQ_unique (n := x.1) (d := x.2) (n' := y.1) (d' := y.2) hx hy this
  exact Prod.ext this.1 this.2
theorem add_assoc {a b c : Q} (hx : okQ (addQ (addQ a b) c) = true) (hy : okQ (addQ a (addQ b c)) = true) : addQ (addQ a b) c = addQ a (addQ b c) := by
  obtain ⟨h1, h2, e1⟩ := addQ_val hx
  obtain ⟨h3, h4, e2⟩ := addQ_val h1
  obtain ⟨h5, h6, e3⟩ := addQ_val hy
  obtain ⟨h7, h8, e4⟩ := addQ_val h6
  have pa := okQ_pos h3
  have pb := okQ_pos h4
  have pc := okQ_pos h2
  have ps := okQ_pos h1
  have pt := okQ_pos h6
  generalize addQ (addQ a b) c = x at *
  generalize addQ a (addQ b c) = y at *
  generalize addQ a b = s at *
  generalize addQ b c = t at *
  refine val_unique (n := a.1 * b.2 * c.2 + b.1 * a.2 * c.2 + c.1 * a.2 * b.2) (d := a.2 * b.2 * c.2) hx hy (Int.ne_of_gt (Int.mul_pos (Int.mul_pos pa pb) pc)) ?_ ?_
  · apply Int.eq_of_mul_eq_mul_left (Int.ne_of_gt ps)
    grind
  · apply Int.eq_of_mul_eq_mul_left (Int.ne_of_gt pt)
    grind
end Go.Proofs.YtlibjgmnookakaaDoor.Plain
