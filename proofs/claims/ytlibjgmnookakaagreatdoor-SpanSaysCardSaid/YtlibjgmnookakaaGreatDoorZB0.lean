/- Parts of the proof of SpanSays, joined by program out of this session's own texts. -/
import Derived.Test.YtlibjgmnookakaaGreatDoorProg
import Derived.ChangeArms
import Derived.ChangeSame
import Derived.Deep.Slices
import Derived.OpenShut
import Derived.Shelf.Strconv.Itoa4
import Derived.SizedLaws
import Derived.WideShapes
import Derived.Test.YtlibjgmnookakaaGreatDoorZWd
set_option linter.unusedVariables false
set_option linter.unusedSimpArgs false
namespace Go.Proofs.YtlibjgmnookakaaGreatDoor.Plain
open Go.RowKit
def isQ (n d : Int) : Bool := decide (1 ≤ d ∧ d ≤ 1073741824 ∧ -1073741824 ≤ n ∧ n ≤ 1073741824 ∧ Nat.gcd n.natAbs d.natAbs = 1)
def mk (n d : Int) : Int × Int :=
  if d = 0 then (0, 0) else
  if 1073741824 < n.natAbs / Nat.gcd n.natAbs d.natAbs ∨ 1073741824 < d.natAbs / Nat.gcd n.natAbs d.natAbs then (0, 0) else
  (if n < 0 ↔ d < 0 then ((n.natAbs / Nat.gcd n.natAbs d.natAbs : Nat) : Int) else -((n.natAbs / Nat.gcd n.natAbs d.natAbs : Nat) : Int), ((d.natAbs / Nat.gcd n.natAbs d.natAbs : Nat) : Int))
theorem isQ_iff {n d : Int} : isQ n d = true ↔ 1 ≤ d ∧ d ≤ 1073741824 ∧ -1073741824 ≤ n ∧ n ≤ 1073741824 ∧ Nat.gcd n.natAbs d.natAbs = 1 := by simp [isQ]
theorem isQ_false {n d : Int} : isQ n d = false ↔ ¬ (1 ≤ d ∧ d ≤ 1073741824 ∧ -1073741824 ≤ n ∧ n ≤ 1073741824 ∧ Nat.gcd n.natAbs d.natAbs = 1) := by
  rw [← isQ_iff]; simp
theorem mk_zero_den (n : Int) : mk n 0 = (0, 0) := by simp [mk]
theorem coprime_unique {a b c d : Nat} (hb : 0 < b) (hd : 0 < d) (h1 : Nat.gcd a b = 1) (h2 : Nat.gcd c d = 1) (h : a * d = c * b) : a = c ∧ b = d := by
  have e1 : b ∣ d := by
    have : b ∣ a * d := ⟨c, by rw [h, Nat.mul_comm]⟩
    exact Nat.Coprime.dvd_of_dvd_mul_left (by rw [Nat.coprime_iff_gcd_eq_one, Nat.gcd_comm]; exact h1) this
  have e2 : d ∣ b := by
    have : d ∣ c * b := ⟨a, by rw [← h, Nat.mul_comm]⟩
    exact Nat.Coprime.dvd_of_dvd_mul_left (by rw [Nat.coprime_iff_gcd_eq_one, Nat.gcd_comm]; exact h2) this
  have e := Nat.dvd_antisymm e1 e2
  subst e
  exact ⟨Nat.eq_of_mul_eq_mul_right hb h, rfl⟩
theorem gcd_pos_of {n d : Int} (h : d ≠ 0) : 0 < Nat.gcd n.natAbs d.natAbs := Nat.gcd_pos_of_pos_right _ (by omega)
theorem lowest (n d : Nat) (hd : 0 < d) : Nat.gcd (n / Nat.gcd n d) (d / Nat.gcd n d) = 1 ∧ 0 < d / Nat.gcd n d ∧ n = n / Nat.gcd n d * Nat.gcd n d ∧ d = d / Nat.gcd n d * Nat.gcd n d := by
  have hg : 0 < Nat.gcd n d := Nat.gcd_pos_of_pos_right _ hd
  refine ⟨by rw [Nat.gcd_div (Nat.gcd_dvd_left n d) (Nat.gcd_dvd_right n d), Nat.div_self hg], Nat.div_pos (Nat.le_of_dvd hd (Nat.gcd_dvd_right n d)) hg, (Nat.div_mul_cancel (Nat.gcd_dvd_left n d)).symm, (Nat.div_mul_cancel (Nat.gcd_dvd_right n d)).symm⟩
theorem mk_cross {n d n' d' : Int} (hd : d ≠ 0) (hd' : d' ≠ 0) (h : n * d' = n' * d) : mk n d = mk n' d' := by
  obtain ⟨l1, l2, l3, l4⟩ := lowest n.natAbs d.natAbs (by omega)
  obtain ⟨m1, m2, m3, m4⟩ := lowest n'.natAbs d'.natAbs (by omega)
  have hab : n.natAbs * d'.natAbs = n'.natAbs * d.natAbs := by rw [← Int.natAbs_mul, ← Int.natAbs_mul, h]
  have hg := gcd_pos_of (n := n) hd
  have hg' := gcd_pos_of (n := n') hd'
  have hc : n.natAbs / Nat.gcd n.natAbs d.natAbs * (d'.natAbs / Nat.gcd n'.natAbs d'.natAbs) = n'.natAbs / Nat.gcd n'.natAbs d'.natAbs * (d.natAbs / Nat.gcd n.natAbs d.natAbs) := by
    generalize n.natAbs / Nat.gcd n.natAbs d.natAbs = x at *
    generalize d.natAbs / Nat.gcd n.natAbs d.natAbs = y at *
    generalize n'.natAbs / Nat.gcd n'.natAbs d'.natAbs = z at *
    generalize d'.natAbs / Nat.gcd n'.natAbs d'.natAbs = u at *
    generalize Nat.gcd n.natAbs d.natAbs = g at *
    generalize Nat.gcd n'.natAbs d'.natAbs = g' at *
    rw [l3, l4, m3, m4] at hab
    have : (x * u) * (g * g') = (z * y) * (g * g') := by
      calc (x * u) * (g * g') = x * g * (u * g') := by rw [Nat.mul_mul_mul_comm]
        _ = z * g' * (y * g) := hab
        _ = (z * y) * (g * g') := by rw [Nat.mul_mul_mul_comm, Nat.mul_comm g' g]
    exact Nat.eq_of_mul_eq_mul_right (Nat.mul_pos hg hg') this
  obtain ⟨ha, hb⟩ := coprime_unique l2 m2 l1 m1 hc
  unfold mk
  rw [if_neg hd, if_neg hd', ha, hb]
  split
  · rfl
  · congr 1
    by_cases hn : n = 0
    · subst hn
      have : n' = 0 := by
        rw [Int.zero_mul] at h
        rcases Int.mul_eq_zero.1 h.symm with h | h
        · exact h
        · exact absurd h hd
      subst this
      simp
    · have hn' : n' ≠ 0 := by
        intro e
        subst e
        rw [Int.zero_mul] at h
        rcases Int.mul_eq_zero.1 h with h | h
        · exact hn h
        · exact hd' h
      have key : (n < 0 ↔ d < 0) ↔ (n' < 0 ↔ d' < 0) := by
        have p1 : 0 < n * d' ↔ (n < 0 ↔ d' < 0) := by
          rcases Int.lt_or_gt_of_ne hn with a | a <;> rcases Int.lt_or_gt_of_ne hd' with b | b
          · have := Int.mul_pos_of_neg_of_neg a b; omega
          · have := Int.mul_neg_of_neg_of_pos a b; omega
          · have := Int.mul_neg_of_pos_of_neg a b; omega
          · have := Int.mul_pos a b; omega
        have p2 : 0 < n' * d ↔ (n' < 0 ↔ d < 0) := by
          rcases Int.lt_or_gt_of_ne hn' with a | a <;> rcases Int.lt_or_gt_of_ne hd with b | b
          · have := Int.mul_pos_of_neg_of_neg a b; omega
          · have := Int.mul_neg_of_neg_of_pos a b; omega
          · have := Int.mul_neg_of_pos_of_neg a b; omega
          · have := Int.mul_pos a b; omega
        rw [h] at p1
        by_cases a : n < 0 <;> by_cases b : d < 0 <;> by_cases c : n' < 0 <;> by_cases e : d' < 0 <;> simp [a, b, c, e] at p1 p2 ⊢ <;> omega
      by_cases k : n < 0 ↔ d < 0
      · rw [if_pos k, if_pos (key.1 k)]
      · rw [if_neg k, if_neg (fun h => k (key.2 h))]
theorem mk_self {n d : Int} (h : isQ n d = true) : mk n d = (n, d) := by
  obtain ⟨h1, h2, h3, h4, h5⟩ := isQ_iff.1 h
  unfold mk
  rw [if_neg (by omega), h5, Nat.div_one, Nat.div_one, if_neg (by omega)]
  by_cases k : n < 0 ↔ d < 0
  · rw [if_pos k]; congr 1 <;> omega
  · rw [if_neg k]; congr 1 <;> omega
theorem mk_told (n d : Int) (hd : d ≠ 0) : (mk n d = (0, 0) ∧ (1073741824 < n.natAbs / Nat.gcd n.natAbs d.natAbs ∨ 1073741824 < d.natAbs / Nat.gcd n.natAbs d.natAbs)) ∨ (isQ (mk n d).1 (mk n d).2 = true ∧ (mk n d).1 * d = n * (mk n d).2) := by
  obtain ⟨l1, l2, l3, l4⟩ := lowest n.natAbs d.natAbs (by omega)
  unfold mk
  rw [if_neg hd]
  split
  · rename_i hh
    exact .inl ⟨rfl, hh⟩
  · rename_i hh
    right
    generalize n.natAbs / Nat.gcd n.natAbs d.natAbs = x at *
    generalize d.natAbs / Nat.gcd n.natAbs d.natAbs = y at *
    generalize Nat.gcd n.natAbs d.natAbs = g at *
    constructor
    · rw [isQ_iff]
      have hv : ∀ v : Int, v = (x : Int) ∨ v = -(x : Int) → -1073741824 ≤ v ∧ v ≤ 1073741824 ∧ v.natAbs = x := by
        intro v h
        omega
      have hv2 := hv (if n < 0 ↔ d < 0 then (x : Int) else -(x : Int)) (by split <;> simp)
      exact ⟨by omega, by omega, hv2.1, hv2.2.1, by rw [hv2.2.2]; exact l1⟩
    · show (if _ then _ else _) * d = n * (y : Int)
      have e3 : (n.natAbs : Int) = (x : Int) * g := by rw [l3]; simp
      have e4 : (d.natAbs : Int) = (y : Int) * g := by rw [l4]; simp
      have c0 : (x : Int) * ((y : Int) * g) = (x : Int) * g * y := by rw [← Int.mul_assoc, Int.mul_right_comm]
      split
      · rename_i k
        by_cases hn : n < 0
        · have : d < 0 := k.1 hn
          have hd2 : d = -((y : Int) * g) := by omega
          have hn2 : n = -((x : Int) * g) := by omega
          rw [hd2, hn2, Int.mul_neg, Int.neg_mul, c0]
        · have : ¬ d < 0 := fun h => hn (k.2 h)
          have hd2 : d = ((y : Int) * g) := by omega
          have hn2 : n = ((x : Int) * g) := by omega
          rw [hd2, hn2, c0]
      · rename_i k
        by_cases hn : n < 0
        · have : ¬ d < 0 := fun h => k ⟨fun _ => h, fun _ => hn⟩
          have hd2 : d = ((y : Int) * g) := by omega
          have hn2 : n = -((x : Int) * g) := by omega
          rw [hd2, hn2, Int.neg_mul, Int.neg_mul, c0]
        · have : d < 0 := by
            by_cases e : d < 0
            · exact e
            · exact absurd ⟨fun h => absurd h hn, fun h => absurd h e⟩ k
          have hd2 : d = -((y : Int) * g) := by omega
          have hn2 : n = ((x : Int) * g) := by omega
          rw [hd2, hn2, Int.neg_mul, Int.mul_neg, Int.neg_neg, c0]
theorem isQ_unique {n d n' d' : Int} (h : isQ n d = true) (h' : isQ n' d' = true) (e : n * d' = n' * d) : n = n' ∧ d = d' := by
  have h1 := isQ_iff.1 h
  have h2 := isQ_iff.1 h'
  have := mk_cross (by omega) (by omega) e
  rw [mk_self h, mk_self h'] at this
  exact Prod.mk.inj this
end Go.Proofs.YtlibjgmnookakaaGreatDoor.Plain
namespace Go.Proofs.YtlibjgmnookakaaGreatDoor.Plain
open Go.RowKit
abbrev Q := Int × Int
def okQ (a : Q) : Bool := isQ a.1 a.2
def addQ (a b : Q) : Q := if okQ a = true then (if okQ b = true then mk (a.1 * b.2 + b.1 * a.2) (a.2 * b.2) else (0, 0)) else (0, 0)
def cleanQ (a : Q) : Q := if okQ a = true then a else (0, 0)
def sgn (x y : Int) : Int := if x < y then -1 else if x > y then 1 else 0
def cmpQ (a b : Q) : Int := if okQ a = true then (if okQ b = true then sgn (a.1 * b.2) (b.1 * a.2) else 1) else (if okQ b = true then -1 else 0)
def minQ (a b : Q) : Q := if okQ a = true then (if okQ b = true then (if cmpQ b a < 0 then b else a) else (0, 0)) else (0, 0)
def maxQ (a b : Q) : Q := if okQ a = true then (if okQ b = true then (if cmpQ b a > 0 then b else a) else (0, 0)) else (0, 0)
def I64 (n : Int) : Prop := -9223372036854775808 ≤ n ∧ n ≤ 9223372036854775807
def I64Q (a : Q) : Prop := I64 a.1 ∧ I64 a.2
theorem okQ_bounds {a : Q} (h : okQ a = true) : 1 ≤ a.2 ∧ a.2 ≤ 1073741824 ∧ -1073741824 ≤ a.1 ∧ a.1 ≤ 1073741824 := by
  have := isQ_iff.1 h
  omega
theorem okQ_mk {n d : Int} (h : okQ (mk n d) = true) : d ≠ 0 ∧ (mk n d).1 * d = n * (mk n d).2 := by
  have hd : d ≠ 0 := by
    intro e
    subst e
    rw [mk_zero_den] at h
    cases h
  rcases mk_told n d hd with ⟨h1, _⟩ | ⟨_, h1⟩
  · rw [h1] at h; cases h
  · exact ⟨hd, h1⟩
end Go.Proofs.YtlibjgmnookakaaGreatDoor.Plain
namespace Go.Proofs.YtlibjgmnookakaaGreatDoor.Plain
theorem addQ_none {a b : Q} (h : ¬ (okQ a = true ∧ okQ b = true)) : addQ a b = (0, 0) := by
  unfold addQ
  by_cases c : okQ a = true <;> by_cases c2 : okQ b = true <;> simp [c, c2] at h ⊢
theorem addQ_val {a b : Q} (h : okQ (addQ a b) = true) : okQ a = true ∧ okQ b = true ∧ (addQ a b).1 * (a.2 * b.2) = (a.1 * b.2 + b.1 * a.2) * (addQ a b).2 := by
  by_cases c : okQ a = true ∧ okQ b = true
  · have e : addQ a b = mk (a.1 * b.2 + b.1 * a.2) (a.2 * b.2) := by unfold addQ; rw [if_pos c.1, if_pos c.2]
    rw [e] at h ⊢
    exact ⟨c.1, c.2, (okQ_mk h).2⟩
  · rw [addQ_none c] at h; cases h
theorem okQ_pos {a : Q} (h : okQ a = true) : 0 < a.2 := by have := okQ_bounds h; omega
theorem val_unique {x y : Q} {n d : Int} (hx : okQ x = true) (hy : okQ y = true) (hd : d ≠ 0) (e1 : x.1 * d = n * x.2) (e2 : y.1 * d = n * y.2) : x = y := by
  have : x.1 * y.2 = y.1 * x.2 := by
    apply Int.eq_of_mul_eq_mul_right hd
    grind
  have := isQ_unique (n := x.1) (d := x.2) (n' := y.1) (d' := y.2) hx hy this
  exact Prod.ext this.1 this.2
theorem add_assoc {a b c : Q} (hx : okQ (addQ (addQ a b) c) = true) (hy : okQ (addQ a (addQ b c)) = true) : addQ (addQ a b) c = addQ a (addQ b c) := by
  obtain ⟨h1, h2, e1⟩ := addQ_val hx
  obtain ⟨h3, h4, e2⟩ := addQ_val h1
  obtain ⟨h5, h6, e3⟩ := addQ_val hy
  obtain ⟨h7, h8, e4⟩ := addQ_val h6
  have pa := okQ_pos h3
  have pb := okQ_pos h4
  have pc := okQ_pos h2
  have ps := okQ_pos h1
  have pt := okQ_pos h6
  generalize addQ (addQ a b) c = x at *
  generalize addQ a (addQ b c) = y at *
  generalize addQ a b = s at *
  generalize addQ b c = t at *
  refine val_unique (n := a.1 * b.2 * c.2 + b.1 * a.2 * c.2 + c.1 * a.2 * b.2) (d := a.2 * b.2 * c.2) hx hy (Int.ne_of_gt (Int.mul_pos (Int.mul_pos pa pb) pc)) ?_ ?_
  · apply Int.eq_of_mul_eq_mul_left (Int.ne_of_gt ps)
    grind
  · apply Int.eq_of_mul_eq_mul_left (Int.ne_of_gt pt)
    grind
end Go.Proofs.YtlibjgmnookakaaGreatDoor.Plain
namespace Go.Proofs.YtlibjgmnookakaaGreatDoor.Plain
def leQ (a b : Q) : Prop := a.1 * b.2 ≤ b.1 * a.2
theorem cmp_le {a b : Q} (ha : okQ a = true) (hb : okQ b = true) : cmpQ a b ≤ 0 ↔ leQ a b := by
  unfold cmpQ leQ sgn
  rw [if_pos ha, if_pos hb]
  split <;> (try split) <;> omega
theorem cmp_lt {a b : Q} (ha : okQ a = true) (hb : okQ b = true) : cmpQ a b < 0 ↔ ¬ leQ b a := by
  unfold cmpQ leQ sgn
  rw [if_pos ha, if_pos hb]
  split <;> (try split) <;> omega
theorem cmp_gt {a b : Q} (ha : okQ a = true) (hb : okQ b = true) : cmpQ a b > 0 ↔ ¬ leQ a b := by
  unfold cmpQ leQ sgn
  rw [if_pos ha, if_pos hb]
  split <;> (try split) <;> omega
theorem le_trans' {a b c : Q} (ha : okQ a = true) (hb : okQ b = true) (hc : okQ c = true) (h : leQ a b) (k : leQ b c) : leQ a c := by
  have pa := okQ_pos ha
  have pb := okQ_pos hb
  have pc := okQ_pos hc
  unfold leQ at *
  apply Int.le_of_mul_le_mul_left _ pb
  have h1 : a.1 * b.2 * c.2 ≤ b.1 * a.2 * c.2 := Int.mul_le_mul_of_nonneg_right h (Int.le_of_lt pc)
  have h2 : b.1 * c.2 * a.2 ≤ c.1 * b.2 * a.2 := Int.mul_le_mul_of_nonneg_right k (Int.le_of_lt pa)
  have e1 : b.2 * (a.1 * c.2) = a.1 * b.2 * c.2 := by grind
  have e2 : b.2 * (c.1 * a.2) = c.1 * b.2 * a.2 := by grind
  have e3 : b.1 * a.2 * c.2 = b.1 * c.2 * a.2 := by grind
  omega
theorem le_self (a : Q) : leQ a a := Int.le_refl _
theorem le_or (a b : Q) : leQ a b ∨ leQ b a := by unfold leQ; omega
theorem min_told {a b : Q} (ha : okQ a = true) (hb : okQ b = true) : (minQ a b = a ∨ minQ a b = b) ∧ leQ (minQ a b) a ∧ leQ (minQ a b) b := by
  unfold minQ
  rw [if_pos ha, if_pos hb]
  split
  · rename_i h
    have := (cmp_lt hb ha).1 h
    refine ⟨.inr rfl, ?_, le_self _⟩
    rcases le_or a b with h | h
    · exact absurd h this
    · exact h
  · rename_i h
    refine ⟨.inl rfl, le_self _, ?_⟩
    rw [cmp_lt hb ha] at h
    exact Classical.not_not.1 h
theorem max_told {a b : Q} (ha : okQ a = true) (hb : okQ b = true) : (maxQ a b = a ∨ maxQ a b = b) ∧ leQ a (maxQ a b) ∧ leQ b (maxQ a b) := by
  unfold maxQ
  rw [if_pos ha, if_pos hb]
  split
  · rename_i h
    have := (cmp_gt hb ha).1 h
    refine ⟨.inr rfl, ?_, le_self _⟩
    rcases le_or b a with h | h
    · exact absurd h this
    · exact h
  · rename_i h
    refine ⟨.inl rfl, le_self _, ?_⟩
    rw [cmp_gt hb ha] at h
    exact Classical.not_not.1 h
structure Sq where
  lo : Q
  hi : Q
  den : Int
  no : Bool
  em : Bool
def EndQ (a : Q) : Prop := okQ a = true ∨ a = (0, 0)
structure OkS (s : Sq) : Prop where
  lo : EndQ s.lo
  hi : EndQ s.hi
  d0 : 0 ≤ s.den
  d1 : s.den ≤ 1073741824
  em : s.em = true → s.lo = (0, 0) ∧ s.hi = (0, 0) ∧ s.den = 0
  le : s.em = false → okQ s.lo = true → okQ s.hi = true → leQ s.lo s.hi
def comm (a b : Int) : Int := if a = 0 ∨ b = 0 then 0 else if a / (Nat.gcd a.natAbs b.natAbs : Nat) * b ≤ 1073741824 then a / (Nat.gcd a.natAbs b.natAbs : Nat) * b else 0
theorem comm_told {a b : Int} (ha : 0 ≤ a) (hb : 0 ≤ b) : 0 ≤ comm a b ∧ comm a b ≤ 1073741824 ∧ (comm a b = 0 ∨ (a ≠ 0 ∧ b ≠ 0 ∧ a ∣ comm a b ∧ b ∣ comm a b)) := by
  unfold comm
  split
  · omega
  · rename_i h
    have hg : 0 < Nat.gcd a.natAbs b.natAbs := Nat.gcd_pos_of_pos_left _ (by omega)
    have da : ((Nat.gcd a.natAbs b.natAbs : Nat) : Int) ∣ a := Int.ofNat_dvd_left.2 (Nat.gcd_dvd_left _ _)
    have db : ((Nat.gcd a.natAbs b.natAbs : Nat) : Int) ∣ b := Int.ofNat_dvd_left.2 (Nat.gcd_dvd_right _ _)
    generalize Nat.gcd a.natAbs b.natAbs = g at *
    obtain ⟨x, hx⟩ := da
    obtain ⟨y, hy⟩ := db
    have g0 : (g : Int) ≠ 0 := by omega
    have e : a / (g : Int) = x := by rw [hx]; exact Int.mul_ediv_cancel_left _ g0
    rw [e]
    have p : 0 ≤ x := by
      rcases Int.lt_or_le x 0 with h' | h'
      · have := Int.mul_neg_of_pos_of_neg (show (0 : Int) < g by omega) h'
        omega
      · exact h'
    have q : 0 ≤ x * b := Int.mul_nonneg p hb
    split
    · rename_i h2
      refine ⟨q, h2, .inr ⟨by omega, by omega, ⟨y, ?_⟩, ⟨x, Int.mul_comm _ _⟩⟩⟩
      rw [hx, hy]; grind
    · exact ⟨by omega, by omega, .inl rfl⟩
def joinV (a b : Sq) : Sq :=
  if a.em = true then { b with no := a.no || b.no } else if b.em = true then { a with no := a.no || b.no } else
  { lo := if okQ a.lo = true then (if okQ b.lo = true then minQ a.lo b.lo else (0, 0)) else (0, 0), hi := if okQ a.hi = true then (if okQ b.hi = true then maxQ a.hi b.hi else (0, 0)) else (0, 0), den := comm a.den b.den, no := a.no || b.no, em := false }
theorem end_none : ¬ okQ (0, 0) = true := by decide
theorem join_ok {a b : Sq} (ha : OkS a) (hb : OkS b) : OkS (joinV a b) := by
  unfold joinV
  split
  · exact ⟨hb.lo, hb.hi, hb.d0, hb.d1, hb.em, hb.le⟩
  split
  · exact ⟨ha.lo, ha.hi, ha.d0, ha.d1, ha.em, ha.le⟩
  rename_i h1 h2
  have c := comm_told ha.d0 hb.d0
  refine ⟨?_, ?_, c.1, c.2.1, fun h => by simp at h, fun _ => ?_⟩
  · simp only []
    split
    · split
      · rename_i k1 k2
        rcases (min_told k1 k2).1 with e | e <;> rw [e]
        · exact .inl k1
        · exact .inl k2
      · exact .inr rfl
    · exact .inr rfl
  · simp only []
    split
    · split
      · rename_i k1 k2
        rcases (max_told k1 k2).1 with e | e <;> rw [e]
        · exact .inl k1
        · exact .inl k2
      · exact .inr rfl
    · exact .inr rfl
  · simp only []
    by_cases k1 : okQ a.lo = true
    · by_cases k2 : okQ b.lo = true
      · rw [if_pos k1, if_pos k2]
        by_cases k3 : okQ a.hi = true
        · by_cases k4 : okQ b.hi = true
          · rw [if_pos k3, if_pos k4]
            intro o1 o2
            exact le_trans' o1 k1 o2 (min_told k1 k2).2.1 (le_trans' k1 k3 o2 (ha.le (by simpa using h1) k1 k3) (max_told k3 k4).2.1)
          · rw [if_pos k3, if_neg k4]
            intro _ o; exact absurd o end_none
        · rw [if_neg k3]
          intro _ o; exact absurd o end_none
      · rw [if_pos k1, if_neg k2]
        intro o; exact absurd o end_none
    · rw [if_neg k1]
      intro o; exact absurd o end_none
def innerLo (a b : Q) : Q := if okQ b = true then (if okQ a = true then (if cmpQ b a > 0 then b else a) else b) else a
def innerHi (a b : Q) : Q := if okQ b = true then (if okQ a = true then (if cmpQ b a < 0 then b else a) else b) else a
def meetW (a b : Sq) : Sq := { lo := innerLo a.lo b.lo, hi := innerHi a.hi b.hi, den := (Nat.gcd a.den.natAbs b.den.natAbs : Nat), no := a.no && b.no, em := false }
def meetV (a b : Sq) : Sq :=
  if a.em = true ∨ b.em = true then ⟨(0, 0), (0, 0), 0, a.no && b.no, true⟩ else
  if okQ (meetW a b).lo = true ∧ okQ (meetW a b).hi = true ∧ cmpQ (meetW a b).lo (meetW a b).hi > 0 then ⟨(0, 0), (0, 0), 0, a.no && b.no, true⟩ else meetW a b
theorem innerLo_end {a b : Q} (ha : EndQ a) (hb : EndQ b) : EndQ (innerLo a b) := by
  unfold innerLo
  split
  · rename_i k
    split
    · split
      · exact .inl k
      · exact ha
    · exact .inl k
  · exact ha
theorem innerHi_end {a b : Q} (ha : EndQ a) (hb : EndQ b) : EndQ (innerHi a b) := by
  unfold innerHi
  split
  · rename_i k
    split
    · split
      · exact .inl k
      · exact ha
    · exact .inl k
  · exact ha
def same2 (a b : Q) : Bool := a.1 == b.1 && a.2 == b.2
theorem same2_iff {a b : Q} : same2 a b = true ↔ a = b := by
  obtain ⟨a1, a2⟩ := a; obtain ⟨b1, b2⟩ := b
  simp [same2]
def widenV (a b : Sq) : Sq :=
  if a.em = true ∨ b.em = true then joinV a b else
  { lo := if same2 (joinV a b).lo a.lo = true then (joinV a b).lo else (0, 0), hi := if same2 (joinV a b).hi a.hi = true then (joinV a b).hi else (0, 0), den := if (joinV a b).den = a.den then (joinV a b).den else 0, no := (joinV a b).no, em := (joinV a b).em }
end Go.Proofs.YtlibjgmnookakaaGreatDoor.Plain
