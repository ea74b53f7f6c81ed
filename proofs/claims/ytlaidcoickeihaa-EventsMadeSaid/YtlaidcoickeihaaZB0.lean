/- Parts of the proof of EventsMade, joined by program out of this session's own texts. -/
import Derived.Test.YtlaidcoickeihaaProg
import Derived.BigRegion
import Derived.ChangeArms
import Derived.ChangeSame
import Derived.Deep.RegionLaw
import Derived.Deep.Slices
import Derived.IntWalk
import Derived.Laws.AppendOwn
import Derived.OpenShut
import Derived.RegionTactic
import Derived.SizedLaws
import Derived.StillTailTactics
import Derived.WideShapes
import Derived.Test.YtlaidcoickeihaaZWd
set_option linter.unusedVariables false
set_option linter.unusedSimpArgs false
namespace Go.Proofs.Ytlaidcoickeihaa.Plain
open Go.RowKit
def isQ (n d : Int) : Bool := decide (1 ≤ d ∧ d ≤ 1073741824 ∧ -1073741824 ≤ n ∧ n ≤ 1073741824 ∧ Nat.gcd n.natAbs d.natAbs = 1)
def mk (n d : Int) : Int × Int :=
  if d = 0 then (0, 0) else
  if 1073741824 < n.natAbs / Nat.gcd n.natAbs d.natAbs ∨ 1073741824 < d.natAbs / Nat.gcd n.natAbs d.natAbs then (0, 0) else
  (if n < 0 ↔ d < 0 then ((n.natAbs / Nat.gcd n.natAbs d.natAbs : Nat) : Int) else -((n.natAbs / Nat.gcd n.natAbs d.natAbs : Nat) : Int), ((d.natAbs / Nat.gcd n.natAbs d.natAbs : Nat) : Int))
theorem isQ_iff {n d : Int} : isQ n d = true ↔ 1 ≤ d ∧ d ≤ 1073741824 ∧ -1073741824 ≤ n ∧ n ≤ 1073741824 ∧ Nat.gcd n.natAbs d.natAbs = 1 := by simp [isQ]
theorem isQ_false {n d : Int} : isQ n d = false ↔ ¬ (1 ≤ d ∧ d ≤ 1073741824 ∧ -1073741824 ≤ n ∧ n ≤ 1073741824 ∧ Nat.gcd n.natAbs d.natAbs = 1) := by
  rw [← isQ_iff]; simp
theorem mk_zero_den (n : Int) : mk n 0 = (0, 0) := by simp [mk]
theorem coprime_unique {a b c d : Nat} (hb : 0 < b) (hd : 0 < d) (h1 : Nat.gcd a b = 1) (h2 : Nat.gcd c d = 1) (h : a * d = c * b) : a = c ∧ b = d := by
  have e1 : b ∣ d := by
    have : b ∣ a * d := ⟨c, by rw [h, Nat.mul_comm]⟩
    exact Nat.Coprime.dvd_of_dvd_mul_left (by rw [Nat.coprime_iff_gcd_eq_one, Nat.gcd_comm]; exact h1) this
  have e2 : d ∣ b := by
    have : d ∣ c * b := ⟨a, by rw [← h, Nat.mul_comm]⟩
    exact Nat.Coprime.dvd_of_dvd_mul_left (by rw [Nat.coprime_iff_gcd_eq_one, Nat.gcd_comm]; exact h2) this
  have e := Nat.dvd_antisymm e1 e2
  subst e
  exact ⟨Nat.eq_of_mul_eq_mul_right hb h, rfl⟩
theorem gcd_pos_of {n d : Int} (h : d ≠ 0) : 0 < Nat.gcd n.natAbs d.natAbs := Nat.gcd_pos_of_pos_right _ (by omega)
theorem lowest (n d : Nat) (hd : 0 < d) : Nat.gcd (n / Nat.gcd n d) (d / Nat.gcd n d) = 1 ∧ 0 < d / Nat.gcd n d ∧ n = n / Nat.gcd n d * Nat.gcd n d ∧ d = d / Nat.gcd n d * Nat.gcd n d := by
  have hg : 0 < Nat.gcd n d := Nat.gcd_pos_of_pos_right _ hd
  refine ⟨by rw [Nat.gcd_div (Nat.gcd_dvd_left n d) (Nat.gcd_dvd_right n d), Nat.div_self hg], Nat.div_pos (Nat.le_of_dvd hd (Nat.gcd_dvd_right n d)) hg, (Nat.div_mul_cancel (Nat.gcd_dvd_left n d)).symm, (Nat.div_mul_cancel (Nat.gcd_dvd_right n d)).symm⟩
theorem mk_cross {n d n' d' : Int} (hd : d ≠ 0) (hd' : d' ≠ 0) (h : n * d' = n' * d) : mk n d = mk n' d' := by
  obtain ⟨l1, l2, l3, l4⟩ := lowest n.natAbs d.natAbs (by omega)
  obtain ⟨m1, m2, m3, m4⟩ := lowest n'.natAbs d'.natAbs (by omega)
  have hab : n.natAbs * d'.natAbs = n'.natAbs * d.natAbs := by rw [← Int.natAbs_mul, ← Int.natAbs_mul, h]
  have hg := gcd_pos_of (n := n) hd
  have hg' := gcd_pos_of (n := n') hd'
  have hc : n.natAbs / Nat.gcd n.natAbs d.natAbs * (d'.natAbs / Nat.gcd n'.natAbs d'.natAbs) = n'.natAbs / Nat.gcd n'.natAbs d'.natAbs * (d.natAbs / Nat.gcd n.natAbs d.natAbs) := by
    generalize n.natAbs / Nat.gcd n.natAbs d.natAbs = x at *
    generalize d.natAbs / Nat.gcd n.natAbs d.natAbs = y at *
    generalize n'.natAbs / Nat.gcd n'.natAbs d'.natAbs = z at *
    generalize d'.natAbs / Nat.gcd n'.natAbs d'.natAbs = u at *
    generalize Nat.gcd n.natAbs d.natAbs = g at *
    generalize Nat.gcd n'.natAbs d'.natAbs = g' at *
    rw [l3, l4, m3, m4] at hab
    have : (x * u) * (g * g') = (z * y) * (g * g') := by
      calc (x * u) * (g * g') = x * g * (u * g') := by rw [Nat.mul_mul_mul_comm]
        _ = z * g' * (y * g) := hab
        _ = (z * y) * (g * g') := by rw [Nat.mul_mul_mul_comm, Nat.mul_comm g' g]
    exact Nat.eq_of_mul_eq_mul_right (Nat.mul_pos hg hg') this
  obtain ⟨ha, hb⟩ := coprime_unique l2 m2 l1 m1 hc
  unfold mk
  rw [if_neg hd, if_neg hd', ha, hb]
  split
  · rfl
  · congr 1
    by_cases hn : n = 0
    · subst hn
      have : n' = 0 := by
        rw [Int.zero_mul] at h
        rcases Int.mul_eq_zero.1 h.symm with h | h
        · exact h
        · exact absurd h hd
      subst this
      simp
    · have hn' : n' ≠ 0 := by
        intro e
        subst e
        rw [Int.zero_mul] at h
        rcases Int.mul_eq_zero.1 h with h | h
        · exact hn h
        · exact hd' h
      have key : (n < 0 ↔ d < 0) ↔ (n' < 0 ↔ d' < 0) := by
        have p1 : 0 < n * d' ↔ (n < 0 ↔ d' < 0) := by
          rcases Int.lt_or_gt_of_ne hn with a | a <;> rcases Int.lt_or_gt_of_ne hd' with b | b
          · have := Int.mul_pos_of_neg_of_neg a b; omega
          · have := Int.mul_neg_of_neg_of_pos a b; omega
          · have := Int.mul_neg_of_pos_of_neg a b; omega
          · have := Int.mul_pos a b; omega
        have p2 : 0 < n' * d ↔ (n' < 0 ↔ d < 0) := by
          rcases Int.lt_or_gt_of_ne hn' with a | a <;> rcases Int.lt_or_gt_of_ne hd with b | b
          · have := Int.mul_pos_of_neg_of_neg a b; omega
          · have := Int.mul_neg_of_neg_of_pos a b; omega
          · have := Int.mul_neg_of_pos_of_neg a b; omega
          · have := Int.mul_pos a b; omega
        rw [h] at p1
        by_cases a : n < 0 <;> by_cases b : d < 0 <;> by_cases c : n' < 0 <;> by_cases e : d' < 0 <;> simp [a, b, c, e] at p1 p2 ⊢ <;> omega
      by_cases k : n < 0 ↔ d < 0
      · rw [if_pos k, if_pos (key.1 k)]
      · rw [if_neg k, if_neg (fun h => k (key.2 h))]
theorem mk_self {n d : Int} (h : isQ n d = true) : mk n d = (n, d) := by
  obtain ⟨h1, h2, h3, h4, h5⟩ := isQ_iff.1 h
  unfold mk
  rw [if_neg (by omega), h5, Nat.div_one, Nat.div_one, if_neg (by omega)]
  by_cases k : n < 0 ↔ d < 0
  · rw [if_pos k]; congr 1 <;> omega
  · rw [if_neg k]; congr 1 <;> omega
theorem mk_told (n d : Int) (hd : d ≠ 0) : (mk n d = (0, 0) ∧ (1073741824 < n.natAbs / Nat.gcd n.natAbs d.natAbs ∨ 1073741824 < d.natAbs / Nat.gcd n.natAbs d.natAbs)) ∨ (isQ (mk n d).1 (mk n d).2 = true ∧ (mk n d).1 * d = n * (mk n d).2) := by
  obtain ⟨l1, l2, l3, l4⟩ := lowest n.natAbs d.natAbs (by omega)
  unfold mk
  rw [if_neg hd]
  split
  · rename_i hh
    exact .inl ⟨rfl, hh⟩
  · rename_i hh
    right
    generalize n.natAbs / Nat.gcd n.natAbs d.natAbs = x at *
    generalize d.natAbs / Nat.gcd n.natAbs d.natAbs = y at *
    generalize Nat.gcd n.natAbs d.natAbs = g at *
    constructor
    · rw [isQ_iff]
      have hv : ∀ v : Int, v = (x : Int) ∨ v = -(x : Int) → -1073741824 ≤ v ∧ v ≤ 1073741824 ∧ v.natAbs = x := by
        intro v h
        omega
      have hv2 := hv (if n < 0 ↔ d < 0 then (x : Int) else -(x : Int)) (by split <;> simp)
      exact ⟨by omega, by omega, hv2.1, hv2.2.1, by rw [hv2.2.2]; exact l1⟩
    · show (if _ then _ else _) * d = n * (y : Int)
      have e3 : (n.natAbs : Int) = (x : Int) * g := by rw [l3]; simp
      have e4 : (d.natAbs : Int) = (y : Int) * g := by rw [l4]; simp
      have c0 : (x : Int) * ((y : Int) * g) = (x : Int) * g * y := by rw [← Int.mul_assoc, Int.mul_right_comm]
      split
      · rename_i k
        by_cases hn : n < 0
        · have : d < 0 := k.1 hn
          have hd2 : d = -((y : Int) * g) := by omega
          have hn2 : n = -((x : Int) * g) := by omega
          rw [hd2, hn2, Int.mul_neg, Int.neg_mul, c0]
        · have : ¬ d < 0 := fun h => hn (k.2 h)
          have hd2 : d = ((y : Int) * g) := by omega
          have hn2 : n = ((x : Int) * g) := by omega
          rw [hd2, hn2, c0]
      · rename_i k
        by_cases hn : n < 0
        · have : ¬ d < 0 := fun h => k ⟨fun _ => h, fun _ => hn⟩
          have hd2 : d = ((y : Int) * g) := by omega
          have hn2 : n = -((x : Int) * g) := by omega
          rw [hd2, hn2, Int.neg_mul, Int.neg_mul, c0]
        · have : d < 0 := by
            by_cases e : d < 0
            · exact e
            · exact absurd ⟨fun h => absurd h hn, fun h => absurd h e⟩ k
          have hd2 : d = -((y : Int) * g) := by omega
          have hn2 : n = ((x : Int) * g) := by omega
          rw [hd2, hn2, Int.neg_mul, Int.mul_neg, Int.neg_neg, c0]
theorem mk_bounds (n d : Int) : -1073741824 ≤ (mk n d).1 ∧ (mk n d).1 ≤ 1073741824 ∧ 0 ≤ (mk n d).2 ∧ (mk n d).2 ≤ 1073741824 := by
  by_cases hd : d = 0
  · subst hd; simp [mk_zero_den]
  · rcases mk_told n d hd with ⟨h, _⟩ | ⟨h, _⟩
    · rw [h]; simp
    · have := isQ_iff.1 h
      omega
end Go.Proofs.Ytlaidcoickeihaa.Plain
namespace Go.Proofs.Ytlaidcoickeihaa.Plain
open Go.RowKit
abbrev Q := Int × Int
def okQ (a : Q) : Bool := isQ a.1 a.2
def I64 (n : Int) : Prop := -9223372036854775808 ≤ n ∧ n ≤ 9223372036854775807
def I64Q (a : Q) : Prop := I64 a.1 ∧ I64 a.2
end Go.Proofs.Ytlaidcoickeihaa.Plain
namespace Go.Proofs.Ytlaidcoickeihaa.Big
def val : List Int → Int
  | [] => 0
  | x :: l => x + 4294967296 * val l
def Dg (l : List Int) : Prop := ∀ x ∈ l, 0 ≤ x ∧ x < 4294967296
def Top (l : List Int) : Prop := ∀ x, l.getLast? = some x → x ≠ 0
def dig (n : Nat) : List Int := if h : n = 0 then [] else ((n % 4294967296 : Nat) : Int) :: dig (n / 4294967296)
termination_by n
decreasing_by exact Nat.div_lt_self (Nat.pos_of_ne_zero h) (by decide)
theorem dig_zero : dig 0 = [] := by unfold dig; rfl
theorem dig_pos {n : Nat} (h : n ≠ 0) : dig n = ((n % 4294967296 : Nat) : Int) :: dig (n / 4294967296) := by
  conv => lhs; unfold dig
  rw [dif_neg h]
theorem dg_nil : Dg [] := fun x hx => by simp at hx
theorem dg_cons {x : Int} {l : List Int} : Dg (x :: l) ↔ (0 ≤ x ∧ x < 4294967296) ∧ Dg l := by unfold Dg; simp
theorem dg_take {l : List Int} (h : Dg l) (i : Nat) : Dg (l.take i) := fun x hx => h x (List.mem_of_mem_take hx)
theorem dg_drop {l : List Int} (h : Dg l) (i : Nat) : Dg (l.drop i) := fun x hx => h x (List.mem_of_mem_drop hx)
theorem dg_set {l : List Int} (h : Dg l) (i : Nat) {v : Int} (hv : 0 ≤ v ∧ v < 4294967296) : Dg (l.set i v) := fun x hx => by
  rcases List.mem_or_eq_of_mem_set hx with h' | h'
  · exact h x h'
  · rw [h']; exact hv
theorem dg_replicate (n : Nat) : Dg (List.replicate n 0) := fun x hx => by
  rw [(List.mem_replicate.1 hx).2]; omega
theorem dg_get {l : List Int} (h : Dg l) (i : Nat) : 0 ≤ l.getD i 0 ∧ l.getD i 0 < 4294967296 := by
  by_cases c : i < l.length
  · rw [List.getD_eq_getElem?_getD, List.getElem?_eq_getElem c]; exact h _ (List.getElem_mem c)
  · rw [List.getD_eq_getElem?_getD, List.getElem?_eq_none (by omega)]; simp
theorem val_nil : val [] = 0 := rfl
theorem val_cons (x : Int) (l : List Int) : val (x :: l) = x + 4294967296 * val l := rfl
theorem val_nonneg {l : List Int} (h : Dg l) : 0 ≤ val l := by
  induction l with
  | nil => exact Int.le_refl _
  | cons x l ih => have := ih (dg_cons.1 h).2; have := (dg_cons.1 h).1; rw [val_cons]; omega
theorem bpos (n : Nat) : (0 : Int) < 4294967296 ^ n := Int.pow_pos (by decide)
theorem val_lt {l : List Int} (h : Dg l) : val l < 4294967296 ^ l.length := by
  induction l with
  | nil => simp [val]
  | cons x l ih =>
    have := ih (dg_cons.1 h).2; have := (dg_cons.1 h).1
    rw [val_cons, List.length_cons, Int.pow_succ]; omega
theorem val_append (a b : List Int) : val (a ++ b) = val a + 4294967296 ^ a.length * val b := by
  induction a with
  | nil => simp [val]
  | cons x a ih => rw [List.cons_append, val_cons, val_cons, ih, List.length_cons, Int.pow_succ]; grind
theorem val_snoc (a : List Int) (x : Int) : val (a ++ [x]) = val a + 4294967296 ^ a.length * x := by
  rw [val_append]; simp [val]
theorem val_replicate (n : Nat) : val (List.replicate n 0) = 0 := by
  induction n with
  | zero => rfl
  | succ n ih => rw [List.replicate_succ, val_cons, ih]; rfl
theorem val_set (l : List Int) (i : Nat) (h : i < l.length) (v : Int) : val (l.set i v) = val l + 4294967296 ^ i * (v - l.getD i 0) := by
  induction l generalizing i with
  | nil => simp at h
  | cons x l ih =>
    cases i with
    | zero => simp [val]; omega
    | succ i =>
      rw [List.set_cons_succ, val_cons, val_cons, ih i (by simpa using h), List.getD_cons_succ, Int.pow_succ]; grind
theorem val_take_succ (l : List Int) (i : Nat) : val (l.take (i + 1)) = val (l.take i) + 4294967296 ^ i * l.getD i 0 := by
  by_cases c : i < l.length
  · rw [List.take_add_one, List.getElem?_eq_getElem c, List.getD_eq_getElem?_getD, List.getElem?_eq_getElem c]
    simp only [Option.toList_some, Option.getD_some]
    rw [val_snoc, List.length_take, Nat.min_eq_left (by omega)]
  · rw [List.take_of_length_le (by omega), List.take_of_length_le (by omega), List.getD_eq_getElem?_getD, List.getElem?_eq_none (by omega)]
    simp
theorem val_take_drop (l : List Int) (i : Nat) : val l = val (l.take i) + 4294967296 ^ i * val (l.drop i) := by
  by_cases c : i ≤ l.length
  · have := val_append (l.take i) (l.drop i)
    rw [List.take_append_drop, List.length_take, Nat.min_eq_left c] at this
    exact this
  · rw [List.take_of_length_le (by omega), List.drop_of_length_le (by omega), val_nil]; simp
theorem val_drop (l : List Int) (i : Nat) : val (l.drop i) = l.getD i 0 + 4294967296 * val (l.drop (i + 1)) := by
  by_cases c : i < l.length
  · rw [List.drop_eq_getElem_cons c, val_cons, List.getD_eq_getElem?_getD, List.getElem?_eq_getElem c]; rfl
  · rw [List.drop_of_length_le (by omega), List.drop_of_length_le (by omega), List.getD_eq_getElem?_getD, List.getElem?_eq_none (by omega)]; rfl
theorem dig_dg (n : Nat) : Dg (dig n) := by
  induction n using Nat.strongRecOn with
  | _ n ih =>
    by_cases h : n = 0
    · subst h; rw [dig_zero]; exact dg_nil
    · rw [dig_pos h]
      exact dg_cons.2 ⟨by omega, ih _ (Nat.div_lt_self (by omega) (by decide))⟩
theorem dig_val (n : Nat) : val (dig n) = n := by
  induction n using Nat.strongRecOn with
  | _ n ih =>
    by_cases h : n = 0
    · subst h; rw [dig_zero]; rfl
    · rw [dig_pos h, val_cons, ih _ (Nat.div_lt_self (by omega) (by decide))]; omega
theorem dig_eq_nil {n : Nat} : dig n = [] ↔ n = 0 := by
  constructor
  · intro h
    have := dig_val n
    rw [h, val_nil] at this; omega
  · rintro rfl; exact dig_zero
theorem dig_len_zero {n : Nat} : (dig n).length = 0 ↔ n = 0 := by rw [List.length_eq_zero_iff, dig_eq_nil]
theorem dig_top (n : Nat) : Top (dig n) := by
  induction n using Nat.strongRecOn with
  | _ n ih =>
    by_cases h : n = 0
    · subst h; rw [dig_zero]; intro x hx; simp at hx
    · rw [dig_pos h]
      intro x hx
      by_cases hd : n / 4294967296 = 0
      · rw [hd, dig_zero] at hx
        simp at hx
        omega
      · have hne : dig (n / 4294967296) ≠ [] := fun e => hd (dig_eq_nil.1 e)
        rw [List.getLast?_cons_of_ne_nil hne] at hx
        exact ih _ (Nat.div_lt_self (by omega) (by decide)) x hx
theorem dig_of {l : List Int} (h : Dg l) (ht : Top l) : l = dig (val l).toNat := by
  induction l with
  | nil => rw [val_nil]; exact dig_zero.symm
  | cons x l ih =>
    obtain ⟨hx, hl⟩ := dg_cons.1 h
    have ht' : Top l := by
      intro y hy
      cases l with
      | nil => simp at hy
      | cons z l => exact ht y (by rw [List.getLast?_cons_cons]; exact hy)
    have e := ih hl ht'
    have hv := val_nonneg hl
    have hn : (val (x :: l)).toNat ≠ 0 := by
      intro h0
      rw [val_cons] at h0
      have : val l = 0 := by omega
      have hx0 : x = 0 := by omega
      rw [this] at e
      have e' : l = [] := e.trans dig_zero
      subst e'
      exact ht x (by simp) hx0
    rw [dig_pos hn, val_cons]
    have e1 : (((x + 4294967296 * val l).toNat % 4294967296 : Nat) : Int) = x := by omega
    have e2 : (x + 4294967296 * val l).toNat / 4294967296 = (val l).toNat := by omega
    rw [e1, e2, ← e]
theorem dig_len_le {n k : Nat} (h : n < 4294967296 ^ k) : (dig n).length ≤ k := by
  induction k generalizing n with
  | zero => have : n = 0 := by simpa using h
            subst this; rw [dig_zero]; exact Nat.le_refl _
  | succ k ih =>
    by_cases h0 : n = 0
    · subst h0; rw [dig_zero]; exact Nat.zero_le _
    · rw [dig_pos h0, List.length_cons]
      have : n / 4294967296 < 4294967296 ^ k := by
        rw [Nat.div_lt_iff_lt_mul (by decide)]; rwa [Nat.pow_succ] at h
      have := ih this
      omega
theorem dig_lt (n : Nat) : n < 4294967296 ^ (dig n).length := by
  have := val_lt (dig_dg n)
  rw [dig_val, show (4294967296 : Int) = ((4294967296 : Nat) : Int) from rfl, ← Int.natCast_pow] at this
  exact Int.ofNat_lt.1 this
theorem le_of_len {n : Nat} (h : n ≠ 0) : 4294967296 ^ ((dig n).length - 1) ≤ n := by
  rcases Nat.lt_or_ge n (4294967296 ^ ((dig n).length - 1)) with h' | h'
  · have := dig_len_le h'
    have h1 : (dig n).length ≠ 0 := fun e => h (dig_len_zero.1 e)
    omega
  · exact h'
theorem dig_len_mono {a b : Nat} (h : a ≤ b) : (dig a).length ≤ (dig b).length := dig_len_le (Nat.lt_of_le_of_lt h (dig_lt b))
theorem lt_of_dig_len {a b : Nat} (h : (dig a).length < (dig b).length) : a < b := by
  rcases Nat.lt_or_ge a b with h' | h'
  · exact h'
  · have := dig_len_mono h'; omega
theorem val_cmp {a b : List Int} (ha : Dg a) (hb : Dg b) (hl : a.length = b.length) (i : Nat) (hi : i < a.length) (he : a.drop (i + 1) = b.drop (i + 1)) (h : a.getD i 0 < b.getD i 0) : val a < val b := by
  rw [val_take_drop a i, val_take_drop b i, val_drop a i, val_drop b i, he]
  have h1 := val_lt (dg_take ha i)
  have h2 := val_nonneg (dg_take hb i)
  rw [List.length_take, Nat.min_eq_left (by omega)] at h1
  have h3 := bpos i
  have h4 : (4294967296 : Int) ^ i * (a.getD i 0 + 1) ≤ 4294967296 ^ i * b.getD i 0 := Int.mul_le_mul_of_nonneg_left (by omega) (Int.le_of_lt h3)
  grind
end Go.Proofs.Ytlaidcoickeihaa.Big
namespace Go.Proofs.Ytlaidcoickeihaa.Nb
open Go.RowKit Go.Proofs.Ytlaidcoickeihaa.Wd.PrintWords Go.Proofs.Ytlaidcoickeihaa.Wd.PrintLast Go.Proofs.Ytlaidcoickeihaa.Wd.PrintMore Go.Proofs.Ytlaidcoickeihaa.Big
abbrev Wd (w : World) (A : Option Addr) (l : List Int) : Prop := Kd.C (Kd.int .u32) w A l.length l
theorem wd_len {w : World} {A : Option Addr} {l : List Int} (h : Wd w A l) : l.length ≤ 9223372036854775807 := h.2.1
theorem wd_at {w : World} {A : Option Addr} {l : List Int} (h : Wd w A l) (i : Nat) (hi : i < l.length) : ∃ ad, A = some ad ∧ w.cell? (ad.add i) = some (.int .u32 (l.getD i 0)) := by
  obtain ⟨ad, e, hc⟩ := Kd.at_int h (i : Int) (by omega) (by omega)
  exact ⟨ad, e, by simpa [rd] using hc⟩
theorem dr1 (w : World) (a : Nat) : Drawn0 w (w.drewN a) := (Drawn0.refl w).step a
theorem dr2 (w : World) (a b : Nat) : Drawn0 w ((w.drewN a).drewN b) := (dr1 w a).step b
theorem dr3 (w : World) (a b c : Nat) : Drawn0 w (((w.drewN a).drewN b).drewN c) := (dr2 w a b).step c
def cmpI (x y : Int) : Int := if x < y then -1 else if y < x then 1 else 0
def sizeI (a b : List Int) : Int := if a.length < b.length then -1 else if b.length < a.length then 1 else cmpI (val a) (val b)
set_option maxHeartbeats 4000000 in
set_option maxRecDepth 100000 in
theorem sizes_any (w : World) (A0 A1 : Option Addr) (c0 c1 : Nat) (a b : List Int) (h0 : Wd w A0 a) (h1 : Wd w A1 b) (d0 : Dg a) (d1 : Dg b) :
    Calls Try.prog 74 #[.slice A0 a.length c0, .slice A1 b.length c1] w fun e w' => e = .returned (.int .i64 (sizeI a b)) ∧ Drawn0 w w' := by
  have l0 := wd_len h0
  have l1 := wd_len h1
  have H0 := Aside0.mk h0
  have H1 := Aside0.mk h1
  have D0 := Aside0.mk d0
  have D1 := Aside0.mk d1
  clear h0 h1 d0 d1
  by_cases hl : a.length = b.length
  · have hlb : (a.length == b.length) = true := by simpa using hl
    have HL := Aside0.mk hl
    clear hl
    go_enter Try.func74, Try.ntmps74
    go_wp2
    go_loopw [5] (fun v5 W => ∃ j : Nat, j ≤ a.length ∧ v5 = .int .i64 ((j : Int) - 1) ∧ Aside0 (a.drop j = b.drop j) ∧ Drawn0 w W) (fun v5 _ => (intOf v5 + 1).toNat)
    case atStart => exact ⟨a.length, Nat.le_refl _, rfl, ⟨by rw [List.drop_length, HL.out, List.drop_length]⟩, Drawn0.refl _⟩
    case round =>
      obtain ⟨j, hj, rfl, HE, ⟨nw, rfl⟩⟩ := hrel
      cases j with
      | zero =>
        have HE' := Aside0.mk (show a = b by simpa using HE.out)
        go_wp2
        go_ret
        exact ⟨by rw [HE'.out]; simp [sizeI, cmpI], ⟨_, rfl⟩⟩
      | succ m =>
        rw [show ((m + 1 : Nat) : Int) - 1 = (m : Int) by omega]
        obtain ⟨ad0, e0, x0⟩ := wd_at H0.out m (by omega)
        obtain ⟨ad1, e1, x1⟩ := wd_at H1.out m (by have := HL.out; omega)
        subst e0 e1
        have q1 : m < a.length := by omega
        have q2 : m < b.length := by have := HL.out; omega
        have y0 := dg_get D0.out m
        have y1 := dg_get D1.out m
        have HD0 := Aside0.mk (show a.drop m = a.getD m 0 :: a.drop (m + 1) by rw [List.drop_eq_getElem_cons q1, List.getD_eq_getElem?_getD, List.getElem?_eq_getElem q1]; rfl)
        have HD1 := Aside0.mk (show b.drop m = b.getD m 0 :: b.drop (m + 1) by rw [List.drop_eq_getElem_cons q2, List.getD_eq_getElem?_getD, List.getElem?_eq_getElem q2]; rfl)
        have HG0 := Aside0.mk (fun h => val_cmp D0.out D1.out HL.out m q1 HE.out h)
        have HG1 := Aside0.mk (fun h => val_cmp D1.out D0.out HL.out.symm m q2 HE.out.symm h)
        generalize a.getD m 0 = x at *
        generalize b.getD m 0 = y at *
        by_cases c1 : x = y
        · subst c1
          go_wp2
          go_quiet (fail)
          go_wp2
          go_roundw
          case rel => exact ⟨m, by omega, by go_num, ⟨by rw [HD0.out, HD1.out, HE.out]⟩, ⟨_, rfl⟩⟩
          case measure => simp [intOf]
        · have k1 : (x == y) = false := by simpa using c1
          by_cases c2 : x < y
          · have HR := Aside0.mk (show sizeI a b = -1 by have := HG0.out c2; rw [sizeI, if_neg (by rw [HL.out]; omega), if_neg (by rw [HL.out]; omega), cmpI, if_pos this])
            go_wp2
            go_quiet (fail)
            go_wp2
            go_quiet (fail)
            go_wp2
            go_ret
            exact ⟨by rw [HR.out]; rfl, dr3 _ _ _ _⟩
          · have HR := Aside0.mk (show sizeI a b = 1 by have := HG1.out (by omega); rw [sizeI, if_neg (by rw [HL.out]; omega), if_neg (by rw [HL.out]; omega), cmpI, if_neg (by omega), if_pos this])
            have k2 : decide (x < y) = false := by simpa using c2
            clear c2
            go_wp2
            go_quiet (fail)
            go_wp2
            go_quiet (fail)
            go_wp2
            go_ret
            exact ⟨by rw [HR.out]; rfl, dr3 _ _ _ _⟩
  · have hlb : (a.length == b.length) = false := by simpa using hl
    by_cases c : a.length < b.length
    · have HR := Aside0.mk (show sizeI a b = -1 by rw [sizeI, if_pos c])
      go_enter Try.func74, Try.ntmps74
      go_wp2
      go_ret
      exact ⟨by rw [HR.out]; rfl, ⟨0, rfl⟩⟩
    · have HR := Aside0.mk (show sizeI a b = 1 by rw [sizeI, if_neg c, if_pos (by omega)])
      have k2 : decide (a.length < b.length) = false := by simpa using c
      go_enter Try.func74, Try.ntmps74
      go_wp2
      go_ret
      exact ⟨by rw [HR.out]; rfl, ⟨0, rfl⟩⟩
end Go.Proofs.Ytlaidcoickeihaa.Nb
namespace Go.Proofs.Ytlaidcoickeihaa.Nb
open Go.RowKit Go.Proofs.Ytlaidcoickeihaa.Wd.PrintWords Go.Proofs.Ytlaidcoickeihaa.Wd.PrintLast Go.Proofs.Ytlaidcoickeihaa.Wd.PrintMore Go.Proofs.Ytlaidcoickeihaa.Big
theorem ret2_i {k k' : IntKind} {a b c d : Int} (h : a = b) (h' : c = d) : Ending.returned (.tuple #[.int k a, .int k' c]) = .returned (.tuple #[.int k b, .int k' d]) := by rw [h, h']
set_option maxHeartbeats 4000000 in
theorem add32_any (w : World) (x y c : Int) (hx : 0 ≤ x ∧ x < 4294967296) (hy : 0 ≤ y ∧ y < 4294967296) (hc : 0 ≤ c ∧ c ≤ 1) :
    Calls Try.prog 86 #[.int .u32 x, .int .u32 y, .int .u32 c] w fun e w' => e = .returned (.tuple #[.int .u32 ((x + y + c) % 4294967296), .int .u32 ((x + y + c) / 4294967296)]) ∧ Drawn0 w w' := by
  obtain ⟨x0, x1⟩ := hx
  obtain ⟨y0, y1⟩ := hy
  obtain ⟨c0, c1⟩ := hc
  go_enter Try.func86, Try.ntmps86
  go_wp2
  go_ret2
  exact ⟨rfl, Drawn0.refl _⟩
theorem and_top (a b : Nat) : (a &&& b) / 2147483648 = (a / 2147483648) &&& (b / 2147483648) := by
  have := Nat.shiftRight_and_distrib (a := a) (b := b) (i := 31)
  simpa [Nat.shiftRight_eq_div_pow] using this
theorem or_top (a b : Nat) : (a ||| b) / 2147483648 = (a / 2147483648) ||| (b / 2147483648) := by
  have := Nat.shiftRight_or_distrib (a := a) (b := b) (i := 31)
  simpa [Nat.shiftRight_eq_div_pow] using this
theorem xor_top (a b : Nat) : (a ^^^ b) / 2147483648 = (a / 2147483648) ^^^ (b / 2147483648) := by
  have := Nat.shiftRight_xor_distrib (a := a) (b := b) (i := 31)
  simpa [Nat.shiftRight_eq_div_pow] using this
def borrowI (x y c : Int) : Int := if x < y + c then 1 else 0
theorem borrowI_01 (x y c : Int) : 0 ≤ borrowI x y c ∧ borrowI x y c ≤ 1 := by unfold borrowI; split <;> omega
theorem borrow_bits (x y c : Int) (x0 : 0 ≤ x) (x1 : x < 4294967296) (y0 : 0 ≤ y) (y1 : y < 4294967296) (c0 : 0 ≤ c) (c1 : c ≤ 1) :
    bits .or .u32 (bits .and .u32 (bits .xor .u32 4294967295 x) y) (bits .and .u32 (bits .xor .u32 4294967295 (bits .xor .u32 x y)) ((x - y - c) % 4294967296)) / 2147483648 = borrowI x y c := by
  obtain ⟨d, hd⟩ : ∃ d : Nat, (x - y - c) % 4294967296 = d := ⟨((x - y - c) % 4294967296).toNat, by omega⟩
  obtain ⟨a, rfl⟩ := Int.eq_ofNat_of_zero_le x0
  obtain ⟨b, rfl⟩ := Int.eq_ofNat_of_zero_le y0
  have ha : a < 4294967296 := by omega
  have hb : b < 4294967296 := by omega
  have hdl : d < 4294967296 := by omega
  have l1 : 4294967295 ^^^ a < 4294967296 := Nat.xor_lt_two_pow (n := 32) (by decide) ha
  have l2 : a ^^^ b < 4294967296 := Nat.xor_lt_two_pow (n := 32) ha hb
  have l3 : 4294967295 ^^^ (a ^^^ b) < 4294967296 := Nat.xor_lt_two_pow (n := 32) (by decide) l2
  have l4 : (4294967295 ^^^ a) &&& b < 4294967296 := Nat.lt_of_le_of_lt Nat.and_le_right hb
  have l5 : (4294967295 ^^^ (a ^^^ b)) &&& d < 4294967296 := Nat.lt_of_le_of_lt Nat.and_le_right hdl
  rw [hd, show (4294967295 : Int) = ((4294967295 : Nat) : Int) from rfl, u32_xor_nat _ _ (by decide) ha, u32_xor_nat _ _ ha hb, u32_xor_nat _ _ (by decide) l2, u32_and_nat _ _ l1 hb, u32_and_nat _ _ l3 hdl, u32_or_nat _ _ l4 l5]
  have e : (((4294967295 ^^^ a) &&& b) ||| ((4294967295 ^^^ (a ^^^ b)) &&& d)) / 2147483648 = (((1 ^^^ (a / 2147483648)) &&& (b / 2147483648)) ||| ((1 ^^^ ((a / 2147483648) ^^^ (b / 2147483648))) &&& (d / 2147483648))) := by
    rw [or_top, and_top, and_top, xor_top, xor_top, xor_top]
  have e' : ((((4294967295 ^^^ a) &&& b) ||| ((4294967295 ^^^ (a ^^^ b)) &&& d) : Nat) : Int) / 2147483648 = ((((1 ^^^ (a / 2147483648)) &&& (b / 2147483648)) ||| ((1 ^^^ ((a / 2147483648) ^^^ (b / 2147483648))) &&& (d / 2147483648)) : Nat) : Int) := by
    rw [← e]; omega
  rw [e']
  have ca : a / 2147483648 = 0 ∨ a / 2147483648 = 1 := by omega
  have cb : b / 2147483648 = 0 ∨ b / 2147483648 = 1 := by omega
  have cd : d / 2147483648 = 0 ∨ d / 2147483648 = 1 := by omega
  unfold borrowI
  rcases ca with ca | ca <;> rcases cb with cb | cb <;> rcases cd with cd | cd <;> rw [ca, cb, cd] <;> split <;> first | rfl | (exfalso; omega)
set_option maxHeartbeats 4000000 in
theorem sub32_any (w : World) (x y c : Int) (hx : 0 ≤ x ∧ x < 4294967296) (hy : 0 ≤ y ∧ y < 4294967296) (hc : 0 ≤ c ∧ c ≤ 1) :
    Calls Try.prog 87 #[.int .u32 x, .int .u32 y, .int .u32 c] w fun e w' => e = .returned (.tuple #[.int .u32 ((x - y - c) % 4294967296), .int .u32 (borrowI x y c)]) ∧ Drawn0 w w' := by
  obtain ⟨x0, x1⟩ := hx
  obtain ⟨y0, y1⟩ := hy
  obtain ⟨c0, c1⟩ := hc
  have HR := Aside0.mk (borrow_bits x y c x0 x1 y0 y1 c0 c1)
  have hm : IntKind.u32.max = 4294967295 := by decide
  go_enter Try.func87, Try.ntmps87
  go_wp2
  go_ret2
  exact ⟨ret2_i rfl HR.out, Drawn0.refl _⟩
end Go.Proofs.Ytlaidcoickeihaa.Nb
namespace Go.Proofs.Ytlaidcoickeihaa.Nb
open Go.RowKit Go.Proofs.Ytlaidcoickeihaa.Wd.PrintWords Go.Proofs.Ytlaidcoickeihaa.Wd.PrintLast Go.Proofs.Ytlaidcoickeihaa.Wd.PrintMore Go.Proofs.Ytlaidcoickeihaa.Big
def Own (W : World) (g : Nat) (xs : List Int) : Prop := W.heap[g]? = some (.cells (nums .u32 xs).toArray 116 (0, 0))
theorem Own.cell {W : World} {g : Nat} {xs : List Int} (h : Own W g xs) (i : Nat) (hi : i < xs.length) : W.cell? ⟨g, i, none⟩ = some (.int .u32 (xs.getD i 0)) := by
  rw [blk_cell h]
  simp [nums, List.getD_eq_getElem?_getD, List.getElem?_eq_getElem hi]
theorem Own.frozen {W : World} {g : Nat} {xs : List Int} (h : Own W g xs) (i : Nat) : W.frozen? ⟨g, i, none⟩ = false := blk_frozen h i
theorem Own.set {W : World} {g : Nat} {xs : List Int} (h : Own W g xs) (i : Nat) (v : Int) : Own (W.setCell ⟨g, i, none⟩ (.int .u32 v)) g (xs.set i v) := by
  unfold Own
  rw [blk_set h]
  congr 2
  simp [nums, List.map_set]
theorem Own.below {W W' : World} {g : Nat} {xs : List Int} (h : Own W g xs) (hb : Below W.heap.size W W') : Own W' g xs := blk_below h hb
theorem Own.drewN {W : World} {g : Nat} {xs : List Int} (h : Own W g xs) (n : Nat) : Own (W.drewN n) g xs := h
theorem Own.drawn {W W' : World} {g : Nat} {xs : List Int} (h : Own W g xs) (hd : Drawn0 W W') : Own W' g xs := by
  obtain ⟨⟨n, rfl⟩⟩ := hd
  exact h
theorem Own.lt {W : World} {g : Nat} {xs : List Int} (h : Own W g xs) : g < W.heap.size := blk_lt h
theorem Own.new (W : World) (xs : List Int) : Own (W.alloc (.cells (nums .u32 xs).toArray 116)) W.heap.size xs := blk_new W _
theorem Own.wd {W : World} {g : Nat} {xs : List Int} (h : Own W g xs) (hl : xs.length ≤ 9223372036854775807) : Wd W (some ⟨g, 0, none⟩) xs := by
  refine ⟨rfl, hl, fun _ => ⟨_, rfl, fun j p hj => ?_⟩⟩
  have hjl := (List.getElem?_eq_some_iff.1 hj).1
  refine ⟨[.int .u32 p], rfl, rfl, fun i u hi => ?_⟩
  cases i with
  | zero =>
    have e := h.cell j hjl
    rw [List.getD_eq_getElem?_getD, hj] at e
    simp at hi
    subst hi
    have ea : (⟨g, 0, none⟩ : Addr).add (j * 1 + 0) = ⟨g, j, none⟩ := by
      unfold Addr.add; by_cases h0 : j = 0 <;> simp [h0]
    show W.cell? (Addr.add ⟨g, 0, none⟩ (j * 1 + 0)) = _
    rw [ea]; simpa using e
  | succ i => simp at hi
theorem wd_below {w w' : World} {A : Option Addr} {l : List Int} (h : Wd w A l) (hb : Below w.heap.size w w') : Wd w' A l := Kd.C_below h hb
theorem wd_take {w : World} {A : Option Addr} {l : List Int} (h : Wd w A l) (m : Nat) : Wd w A (l.take m) := by
  obtain ⟨h1, h2, h3⟩ := h
  refine ⟨rfl, Nat.le_trans (List.length_take_le' _ _) h2, fun hp => ?_⟩
  have hlt : 0 < l.length := Nat.lt_of_lt_of_le hp (List.length_take_le' _ _)
  obtain ⟨ad, e, hc⟩ := h3 hlt
  refine ⟨ad, e, fun j p hj => hc j p ?_⟩
  rw [List.getElem?_take] at hj
  split at hj
  · exact hj
  · cases hj
theorem info_w : (Try.prog.info? 116).map (fun i => (i.zero, i.size, i.bytes)) = some (some (.int .u32 0), 1, 4) := by kernel_rfl
theorem made_nums (n : Nat) : madeCells (Value.int .u32 0).cells n = (nums .u32 (List.replicate n 0)).toArray := by
  have e : (Value.int .u32 0).cells = #[.int .u32 0] := rfl
  rw [e]
  apply Array.ext
  · simp [madeCells, nums]
  · intro i h1 h2
    simp [madeCells, nums, Nat.mod_one]
theorem mk_words (n : Int) (h0 : 0 ≤ n) (h1 : n ≤ 70368744177664) (W : World) : (Instr.makeSlice 83 (.int .i64 n) (.int .i64 n)).run Try.prog W = .ok (.slice (some ⟨W.heap.size, 0, none⟩) n.toNat n.toNat) (W.alloc (.cells (nums .u32 (List.replicate n.toNat 0)).toArray 116)) := by
  obtain ⟨i0, hi, hzz⟩ := Option.map_eq_some_iff.1 info_w
  simp only [Prod.mk.injEq] at hzz
  obtain ⟨hz0, hz1, hz2⟩ := hzz
  have hr := run_make (P := Try.prog) W 83 116 i0 (.int .u32 0) Try.underlying83 hi hz0 .i64 .i64 n n h0 (Int.le_refl _) (by rw [hz2]; omega) (by omega)
  rw [hr, hz1, Nat.mul_one, made_nums]
def NewW (w : World) (P : List Int → Prop) (e : Ending) (w' : World) : Prop :=
  ∃ g xs, e = .returned (.slice (some ⟨g, 0, none⟩) xs.length xs.length) ∧ w.heap.size ≤ g ∧ Own w' g xs ∧ Dg xs ∧ P xs ∧ Below w.heap.size w w'
structure Fill (w : World) (g n i : Nat) (xs : List Int) (W : World) : Prop where
  own : Own W g xs
  below : Below w.heap.size w W
  base : w.heap.size ≤ g
  len : xs.length = n
  dg : Dg xs
  zero : ∀ j, i ≤ j → xs.getD j 0 = 0
theorem Fill.start (w : World) (n : Nat) : Fill w w.heap.size n 0 (List.replicate n 0) (w.alloc (.cells (nums .u32 (List.replicate n 0)).toArray 116)) :=
  ⟨Own.new _ _, below_alloc (Below.refl _ _) _, Nat.le_refl _, by simp, dg_replicate n, fun j _ => by rw [List.getD_eq_getElem?_getD, List.getElem?_replicate]; split <;> rfl⟩
theorem Fill.drewN {w : World} {g n i : Nat} {xs : List Int} {W : World} (h : Fill w g n i xs W) (m : Nat) : Fill w g n i xs (W.drewN m) := ⟨h.own, h.below.trans (pw_below_drewN (Below.refl _ _) m), h.base, h.len, h.dg, h.zero⟩
theorem Fill.put {w : World} {g n i : Nat} {xs : List Int} {W : World} (h : Fill w g n i xs W) (v : Int) (hv : 0 ≤ v ∧ v < 4294967296) : Fill w g n (i + 1) (xs.set i v) (W.setCell ⟨g, i, none⟩ (.int .u32 v)) :=
  ⟨h.own.set i v, below_set h.below h.base, h.base, by rw [List.length_set]; exact h.len, dg_set h.dg i hv, fun j hj => by
    rw [List.getD_eq_getElem?_getD, List.getElem?_set_ne (by omega), ← List.getD_eq_getElem?_getD]; exact h.zero j (by omega)⟩
theorem Fill.val {w : World} {g n i : Nat} {xs : List Int} {W : World} (h : Fill w g n i xs W) (hi : i < n) (v : Int) : val (xs.set i v) = val xs + 4294967296 ^ i * v := by
  rw [val_set _ _ (by rw [h.len]; exact hi), h.zero i (Nat.le_refl _), Int.sub_zero]
end Go.Proofs.Ytlaidcoickeihaa.Nb
namespace Go.Proofs.Ytlaidcoickeihaa.Nb
open Go.RowKit Go.Proofs.Ytlaidcoickeihaa.Wd.PrintWords Go.Proofs.Ytlaidcoickeihaa.Wd.PrintLast Go.Proofs.Ytlaidcoickeihaa.Wd.PrintMore Go.Proofs.Ytlaidcoickeihaa.Big
theorem carry_none {vx c p d : Int} (hx : 0 ≤ vx) (hx1 : vx < p) (hc : 0 ≤ c ∧ c ≤ 1) (hd : 0 ≤ d) (h : vx - c * p = d) : vx = d := by
  have : c = 0 ∨ c = 1 := by omega
  rcases this with rfl | rfl <;> omega
theorem plus_step {va vb vx c p x y : Int} (h : vx + c * p = va + vb) : vx + p * ((x + y + c) % 4294967296) + (x + y + c) / 4294967296 * (p * 4294967296) = va + p * x + (vb + p * y) := by
  have e := Int.emod_add_mul_ediv (x + y + c) 4294967296
  generalize (x + y + c) % 4294967296 = r at *
  generalize (x + y + c) / 4294967296 = q at *
  have : p * (x + y + c) = p * (r + 4294967296 * q) := by rw [e]
  grind
theorem less_step {va vb vx c p x y : Int} (hx : 0 ≤ x ∧ x < 4294967296) (hy : 0 ≤ y ∧ y < 4294967296) (hc : 0 ≤ c ∧ c ≤ 1) (h : vx - c * p = va - vb) :
    vx + p * ((x - y - c) % 4294967296) - borrowI x y c * (p * 4294967296) = va + p * x - (vb + p * y) := by
  have e : (x - y - c) % 4294967296 = x - y - c + borrowI x y c * 4294967296 := by unfold borrowI; split <;> omega
  rw [e]; grind
set_option maxHeartbeats 4000000 in
set_option maxRecDepth 100000 in
theorem less_any (w : World) (A0 A1 : Option Addr) (c0 c1 : Nat) (a b : List Int) (h0 : Wd w A0 a) (h1 : Wd w A1 b) (d0 : Dg a) (d1 : Dg b) (hn : a.length ≤ 70368744177000) (hb : b.length ≤ a.length) (hle : val b ≤ val a) :
    Calls Try.prog 75 #[.slice A0 a.length c0, .slice A1 b.length c1] w (NewW w fun xs => xs.length = a.length ∧ val xs = val a - val b) := by
  have H0 := Aside0.mk h0
  have H1 := Aside0.mk h1
  have D0 := Aside0.mk d0
  have D1 := Aside0.mk d1
  have HLE := Aside0.mk hle
  clear h0 h1 d0 d1 hle
  have hmk := mk_words (a.length : Int) (by omega) (by omega)
  go_enter Try.func75, Try.ntmps75
  go_wp2
  clear hmk
  go_loopw [6, 14] (fun v6 v14 W => ∃ (i : Nat) (c : Int) (xs : List Int), v6 = .int .u32 c ∧ v14 = .int .i64 i ∧ i ≤ a.length ∧ Aside0 (0 ≤ c ∧ c ≤ 1) ∧ Aside0 (Fill w w.heap.size a.length i xs W) ∧ Aside0 (val xs - c * 4294967296 ^ i = val (a.take i) - val (b.take i))) (fun _ v14 _ => a.length - (intOf v14).toNat)
  case atStart => exact ⟨0, 0, _, rfl, rfl, Nat.zero_le _, ⟨by omega⟩, ⟨Fill.start _ _⟩, ⟨by simp [val_replicate, val_nil]⟩⟩
  case round =>
    obtain ⟨i, c, xs, rfl, rfl, hi, HC, HF, HV⟩ := hrel
    by_cases hlt : i < a.length
    · obtain ⟨ad0, e0, x0⟩ := wd_at (wd_below H0.out HF.out.below) i hlt
      subst e0
      have y0 := dg_get D0.out i
      have o0 := HF.out.own.cell i (by rw [HF.out.len]; exact hlt)
      have f0 := HF.out.own.frozen i
      have HA := Aside0.mk (val_take_succ a i)
      have HB := Aside0.mk (val_take_succ b i)
      generalize a.getD i 0 = x at *
      by_cases hlb : i < b.length
      · obtain ⟨ad1, e1, x1⟩ := wd_at (wd_below H1.out HF.out.below) i hlb
        subst e1
        have y1 := dg_get D1.out i
        generalize b.getD i 0 = y at *
        go_wp2_with (go_at_call 87; refine (sub32_any _ x y c y0 y1 HC.out).mono ?_; rintro e w' ⟨rfl, ⟨nd, rfl⟩⟩)
        go_roundw
        case rel => exact ⟨i + 1, borrowI x y c, xs.set i ((x - y - c) % 4294967296), rfl, by go_num, by omega, ⟨borrowI_01 _ _ _⟩, ⟨(HF.out.drewN nd).put _ (by omega)⟩, ⟨by rw [HF.out.val hlt, HA.out, HB.out, Int.pow_succ]; exact less_step y0 y1 HC.out HV.out⟩⟩
        case measure => simp [intOf]; omega
      · have hbz : b.getD i 0 = 0 := by rw [List.getD_eq_getElem?_getD, List.getElem?_eq_none (by omega)]; rfl
        have HB' := HB.out
        rw [hbz] at HB'
        clear HB hbz
        have HB := Aside0.mk HB'
        clear HB'
        go_wp2_with (go_at_call 87; refine (sub32_any _ x 0 c y0 (by omega) HC.out).mono ?_; rintro e w' ⟨rfl, ⟨nd, rfl⟩⟩)
        go_roundw
        case rel => exact ⟨i + 1, borrowI x 0 c, xs.set i ((x - c) % 4294967296), rfl, by go_num, by omega, ⟨borrowI_01 _ _ _⟩, ⟨(HF.out.drewN nd).put _ (by omega)⟩, ⟨by rw [HF.out.val hlt, HA.out, HB.out, Int.pow_succ]; have := less_step y0 (show (0 : Int) ≤ 0 ∧ (0 : Int) < 4294967296 by omega) HC.out HV.out; rw [Int.sub_zero] at this; exact this⟩⟩
        case measure => simp [intOf]; omega
    · have HI := Aside0.mk (show i = a.length by omega)
      go_wp2
      go_ret
      have hv := HV.out
      rw [HI.out, List.take_length, List.take_of_length_le hb] at hv
      have hx1 := val_lt HF.out.dg
      rw [HF.out.len] at hx1
      have hd := carry_none (val_nonneg HF.out.dg) hx1 HC.out (by have := HLE.out; omega) hv
      exact ⟨_, xs, by rw [HF.out.len]; rfl, HF.out.base, HF.out.own, HF.out.dg, ⟨HF.out.len, hd⟩, HF.out.below⟩
set_option maxHeartbeats 4000000 in
set_option maxRecDepth 100000 in
theorem plus_any (w : World) (A0 A1 : Option Addr) (c0 c1 : Nat) (a b : List Int) (h0 : Wd w A0 a) (h1 : Wd w A1 b) (d0 : Dg a) (d1 : Dg b) (hn : a.length ≤ 70368744177000) (hb : b.length ≤ 70368744177000) :
    Calls Try.prog 73 #[.slice A0 a.length c0, .slice A1 b.length c1] w (NewW w fun xs => xs.length = max a.length b.length + 1 ∧ val xs = val a + val b) := by
  have H0 := Aside0.mk h0
  have H1 := Aside0.mk h1
  have D0 := Aside0.mk d0
  have D1 := Aside0.mk d1
  clear h0 h1 d0 d1
  by_cases hl : a.length < b.length
  · have hlb : decide (a.length < b.length) = true := decide_eq_true hl
    have hmk := mk_words ((b.length : Int) + 1) (by omega) (by omega)
    go_enter Try.func73, Try.ntmps73
    go_wp2
    clear hmk
    go_loopw [6, 22] (fun v6 v22 W => ∃ (i : Nat) (c : Int) (xs : List Int), v6 = .int .u32 c ∧ v22 = .int .i64 i ∧ i ≤ b.length ∧ Aside0 (0 ≤ c ∧ c ≤ 1) ∧ Aside0 (Fill w w.heap.size (b.length + 1) i xs W) ∧ Aside0 (val xs + c * 4294967296 ^ i = val (b.take i) + val (a.take i))) (fun _ v22 _ => b.length - (intOf v22).toNat)
    case atStart => exact ⟨0, 0, _, rfl, rfl, Nat.zero_le _, ⟨by omega⟩, ⟨Fill.start _ _⟩, ⟨by simp [val_replicate, val_nil]⟩⟩
    case round =>
      obtain ⟨i, c, xs, rfl, rfl, hi, HC, HF, HV⟩ := hrel
      by_cases hlt : i < b.length
      · obtain ⟨ad0, e0, x0⟩ := wd_at (wd_below H1.out HF.out.below) i hlt
        subst e0
        have y0 := dg_get D1.out i
        have o0 := HF.out.own.cell i (by rw [HF.out.len]; omega)
        have f0 := HF.out.own.frozen i
        have HA := Aside0.mk (val_take_succ b i)
        have HB := Aside0.mk (val_take_succ a i)
        generalize b.getD i 0 = x at *
        by_cases hlb : i < a.length
        · obtain ⟨ad1, e1, x1⟩ := wd_at (wd_below H0.out HF.out.below) i hlb
          subst e1
          have y1 := dg_get D0.out i
          generalize a.getD i 0 = y at *
          go_wp2_with (go_at_call 86; refine (add32_any _ x y c y0 y1 HC.out).mono ?_; rintro e w' ⟨rfl, ⟨nd, rfl⟩⟩)
          go_roundw
          case rel => exact ⟨i + 1, (x + y + c) / 4294967296, xs.set i ((x + y + c) % 4294967296), rfl, by go_num, by omega, ⟨by have := HC.out; omega⟩, ⟨(HF.out.drewN nd).put _ (by omega)⟩, ⟨by rw [HF.out.val (by omega), HA.out, HB.out, Int.pow_succ]; exact plus_step HV.out⟩⟩
          case measure => simp [intOf]; omega
        · have hbz : a.getD i 0 = 0 := by rw [List.getD_eq_getElem?_getD, List.getElem?_eq_none (by omega)]; rfl
          have HB' := HB.out
          rw [hbz] at HB'
          clear HB hbz
          have HB := Aside0.mk HB'
          clear HB'
          go_wp2_with (go_at_call 86; refine (add32_any _ x 0 c y0 (by omega) HC.out).mono ?_; rintro e w' ⟨rfl, ⟨nd, rfl⟩⟩)
          go_roundw
          case rel => exact ⟨i + 1, (x + c) / 4294967296, xs.set i ((x + c) % 4294967296), rfl, by go_num, by omega, ⟨by have := HC.out; omega⟩, ⟨(HF.out.drewN nd).put _ (by omega)⟩, ⟨by rw [HF.out.val (by omega), HA.out, HB.out, Int.pow_succ]; have := plus_step (x := x) (y := 0) HV.out; rw [Int.add_zero] at this; exact this⟩⟩
          case measure => simp [intOf]; omega
      · have HI := Aside0.mk (show i = b.length by omega)
        obtain rfl := HI.out
        have o0 := HF.out.own.cell b.length (by rw [HF.out.len]; omega)
        have f0 := HF.out.own.frozen b.length
        go_wp2
        go_ret
        have hv := HV.out
        rw [List.take_length, List.take_of_length_le (by omega)] at hv
        have HG := HF.out.put c (by have := HC.out; omega)
        exact ⟨_, _, by rw [HG.len]; rfl, HG.base, HG.own, HG.dg, ⟨by rw [HG.len]; omega, by rw [HF.out.val (by omega), Int.mul_comm, hv]; exact Int.add_comm _ _⟩, HG.below⟩
  · have hlb : decide (a.length < b.length) = false := decide_eq_false hl
    have hmk := mk_words ((a.length : Int) + 1) (by omega) (by omega)
    go_enter Try.func73, Try.ntmps73
    go_wp2
    clear hmk
    go_loopw [6, 22] (fun v6 v22 W => ∃ (i : Nat) (c : Int) (xs : List Int), v6 = .int .u32 c ∧ v22 = .int .i64 i ∧ i ≤ a.length ∧ Aside0 (0 ≤ c ∧ c ≤ 1) ∧ Aside0 (Fill w w.heap.size (a.length + 1) i xs W) ∧ Aside0 (val xs + c * 4294967296 ^ i = val (a.take i) + val (b.take i))) (fun _ v22 _ => a.length - (intOf v22).toNat)
    case atStart => exact ⟨0, 0, _, rfl, rfl, Nat.zero_le _, ⟨by omega⟩, ⟨Fill.start _ _⟩, ⟨by simp [val_replicate, val_nil]⟩⟩
    case round =>
      obtain ⟨i, c, xs, rfl, rfl, hi, HC, HF, HV⟩ := hrel
      by_cases hlt : i < a.length
      · obtain ⟨ad0, e0, x0⟩ := wd_at (wd_below H0.out HF.out.below) i hlt
        subst e0
        have y0 := dg_get D0.out i
        have o0 := HF.out.own.cell i (by rw [HF.out.len]; omega)
        have f0 := HF.out.own.frozen i
        have HA := Aside0.mk (val_take_succ a i)
        have HB := Aside0.mk (val_take_succ b i)
        generalize a.getD i 0 = x at *
        by_cases hlb : i < b.length
        · obtain ⟨ad1, e1, x1⟩ := wd_at (wd_below H1.out HF.out.below) i hlb
          subst e1
          have y1 := dg_get D1.out i
          generalize b.getD i 0 = y at *
          go_wp2_with (go_at_call 86; refine (add32_any _ x y c y0 y1 HC.out).mono ?_; rintro e w' ⟨rfl, ⟨nd, rfl⟩⟩)
          go_roundw
          case rel => exact ⟨i + 1, (x + y + c) / 4294967296, xs.set i ((x + y + c) % 4294967296), rfl, by go_num, by omega, ⟨by have := HC.out; omega⟩, ⟨(HF.out.drewN nd).put _ (by omega)⟩, ⟨by rw [HF.out.val (by omega), HA.out, HB.out, Int.pow_succ]; exact plus_step HV.out⟩⟩
          case measure => simp [intOf]; omega
        · have hbz : b.getD i 0 = 0 := by rw [List.getD_eq_getElem?_getD, List.getElem?_eq_none (by omega)]; rfl
          have HB' := HB.out
          rw [hbz] at HB'
          clear HB hbz
          have HB := Aside0.mk HB'
          clear HB'
          go_wp2_with (go_at_call 86; refine (add32_any _ x 0 c y0 (by omega) HC.out).mono ?_; rintro e w' ⟨rfl, ⟨nd, rfl⟩⟩)
          go_roundw
          case rel => exact ⟨i + 1, (x + c) / 4294967296, xs.set i ((x + c) % 4294967296), rfl, by go_num, by omega, ⟨by have := HC.out; omega⟩, ⟨(HF.out.drewN nd).put _ (by omega)⟩, ⟨by rw [HF.out.val (by omega), HA.out, HB.out, Int.pow_succ]; have := plus_step (x := x) (y := 0) HV.out; rw [Int.add_zero] at this; exact this⟩⟩
          case measure => simp [intOf]; omega
      · have HI := Aside0.mk (show i = a.length by omega)
        obtain rfl := HI.out
        have o0 := HF.out.own.cell a.length (by rw [HF.out.len]; omega)
        have f0 := HF.out.own.frozen a.length
        go_wp2
        go_ret
        have hv := HV.out
        rw [List.take_length, List.take_of_length_le (by omega)] at hv
        have HG := HF.out.put c (by have := HC.out; omega)
        exact ⟨_, _, by rw [HG.len]; rfl, HG.base, HG.own, HG.dg, ⟨by rw [HG.len]; omega, by rw [HF.out.val (by omega), Int.mul_comm, hv]⟩, HG.below⟩
end Go.Proofs.Ytlaidcoickeihaa.Nb
namespace Go.Proofs.Ytlaidcoickeihaa.Nb
open Go.RowKit Go.Proofs.Ytlaidcoickeihaa.Wd.PrintWords Go.Proofs.Ytlaidcoickeihaa.Wd.PrintLast Go.Proofs.Ytlaidcoickeihaa.Wd.PrintMore Go.Proofs.Ytlaidcoickeihaa.Big
theorem dig_take {l : List Int} (d : Dg l) (m : Nat) (hv : val (l.take m) = val l) (ht : Top (l.take m)) : dig (val l).toNat = l.take m := by
  rw [← hv]; exact (dig_of (dg_take d m) ht).symm
theorem dig_pre {l : List Int} (d : Dg l) : ∃ m, m ≤ l.length ∧ dig (val l).toNat = l.take m := by
  have H : ∀ n m, m = n → m ≤ l.length → val (l.take m) = val l → ∃ m, m ≤ l.length ∧ dig (val l).toNat = l.take m := by
    intro n
    induction n with
    | zero =>
      rintro m rfl hm hv
      exact ⟨0, hm, dig_take d 0 hv (by intro x hx; simp at hx)⟩
    | succ n ih =>
      rintro m rfl hm hv
      have e := val_take_succ l n
      by_cases hz : l.getD n 0 = 0
      · exact ih n rfl (by omega) (by rw [← hv, e, hz]; simp)
      · refine ⟨n + 1, hm, dig_take d _ hv ?_⟩
        intro x hx
        rw [List.getLast?_take, if_neg (by omega)] at hx
        rw [List.getD_eq_getElem?_getD] at hz
        have : l[n]? = some x := by
          rw [Nat.add_sub_cancel] at hx
          rw [List.getElem?_eq_getElem (by omega)] at hx ⊢
          simpa using hx
        rw [this] at hz
        simpa using hz
  exact H l.length l.length rfl (Nat.le_refl _) (by rw [List.take_length])
theorem wd_dig {w : World} {A : Option Addr} {l : List Int} (h : Wd w A l) (d : Dg l) : Wd w A (dig (val l).toNat) := by
  obtain ⟨m, _, e⟩ := dig_pre d
  rw [e]; exact wd_take h m
theorem dig_len_pre {l : List Int} (d : Dg l) : (dig (val l).toNat).length ≤ l.length := by
  obtain ⟨m, hm, e⟩ := dig_pre d
  rw [e]; exact List.length_take_le' _ _
set_option maxHeartbeats 4000000 in
set_option maxRecDepth 100000 in
theorem made_any (w : World) (A : Option Addr) (c : Nat) (s : Bool) (l : List Int) (h : Wd w A l) (d : Dg l) (hc : l.length ≤ c) :
    Calls Try.prog 68 #[.bool s, .slice A l.length c] w fun e w' => e = .returned (.agg #[.bool (s && decide (0 < (dig (val l).toNat).length)), .slice A (dig (val l).toNat).length c]) ∧ Below w.heap.size w w' := by
  have hl := wd_len h
  have H := Aside0.mk h
  have D := Aside0.mk d
  clear h d
  cases s with
  | false =>
    go_enter Try.func68, Try.ntmps68
    go_wp2
    go_loopw [1] (fun v1 W => ∃ m : Nat, m ≤ l.length ∧ v1 = .slice A m c ∧ Aside0 (val (l.take m) = val l) ∧ Aside0 (∃ n, W = (w.alloc (.cells #[.bool false, .slice none 0 0] 85)).drewN n)) (fun v1 _ => match v1 with | .slice _ m _ => m | _ => 0)
    case atStart => exact ⟨l.length, Nat.le_refl _, rfl, ⟨by rw [List.take_length]⟩, ⟨0, rfl⟩⟩
    case round =>
      obtain ⟨m, hm, rfl, HV, HW⟩ := hrel
      obtain ⟨nw, rfl⟩ := HW.out
      clear HW
      cases m with
      | zero =>
        have HD := Aside0.mk (dig_take D.out 0 HV.out (by intro x hx; simp at hx))
        go_wp2
        refine bodyPost_ret (v := .agg #[.bool false, .slice A 0 c]) (by simp [results, Try.results68, go_sem]) rfl ⟨by rw [HD.out]; simp, ?_⟩
        repeat (first | exact Below.refl _ _ | refine below_set ?_ (Nat.le_refl _) | apply below_alloc | apply pw_below_drewN)
      | succ k =>
        obtain ⟨ad, rfl, x0⟩ := wd_at (wd_below H.out (pw_below_drewN (below_alloc (Below.refl _ _) (.cells #[.bool false, .slice none 0 0] 85)) nw)) k (by omega)
        have HE := Aside0.mk (val_take_succ l k)
        have HK := Aside0.mk (show k < l.length by omega)
        have hlast : l[k]? = some (l.getD k 0) := by rw [List.getD_eq_getElem?_getD, List.getElem?_eq_getElem (show k < l.length by omega)]; rfl
        have HL := Aside0.mk hlast
        clear hlast
        generalize l.getD k 0 = x at *
        by_cases hx : x = 0
        · subst hx
          go_wp2
          go_roundw
          case rel => exact ⟨k, by omega, rfl, ⟨by rw [← HV.out, HE.out]; simp⟩, ⟨nw, rfl⟩⟩
          case measure => simp
        · have HX := Aside0.mk hx
          have hxb : (x == 0) = false := by simpa using hx
          clear hx
          have HD := Aside0.mk (dig_take D.out (k + 1) HV.out (by
            intro y hy
            rw [List.getLast?_take, if_neg (by omega), Nat.add_sub_cancel, HL.out] at hy
            simp at hy
            rw [← hy]; exact HX.out))
          go_wp2
          refine bodyPost_ret (v := .agg #[.bool false, .slice (some ad) (k + 1) c]) (by simp [results, Try.results68, go_sem]) rfl ⟨by rw [HD.out, List.length_take, Nat.min_eq_left hm]; simp, ?_⟩
          repeat (first | exact Below.refl _ _ | refine below_set ?_ (Nat.le_refl _) | apply below_alloc | apply pw_below_drewN)
  | true =>
    go_enter Try.func68, Try.ntmps68
    go_wp2
    go_loopw [1] (fun v1 W => ∃ m : Nat, m ≤ l.length ∧ v1 = .slice A m c ∧ Aside0 (val (l.take m) = val l) ∧ Aside0 (∃ n, W = (w.alloc (.cells #[.bool false, .slice none 0 0] 85)).drewN n)) (fun v1 _ => match v1 with | .slice _ m _ => m | _ => 0)
    case atStart => exact ⟨l.length, Nat.le_refl _, rfl, ⟨by rw [List.take_length]⟩, ⟨0, rfl⟩⟩
    case round =>
      obtain ⟨m, hm, rfl, HV, HW⟩ := hrel
      obtain ⟨nw, rfl⟩ := HW.out
      clear HW
      cases m with
      | zero =>
        have HD := Aside0.mk (dig_take D.out 0 HV.out (by intro x hx; simp at hx))
        go_wp2
        refine bodyPost_ret (v := .agg #[.bool false, .slice A 0 c]) (by simp [results, Try.results68, go_sem]) rfl ⟨by rw [HD.out]; simp, ?_⟩
        repeat (first | exact Below.refl _ _ | refine below_set ?_ (Nat.le_refl _) | apply below_alloc | apply pw_below_drewN)
      | succ k =>
        obtain ⟨ad, rfl, x0⟩ := wd_at (wd_below H.out (pw_below_drewN (below_alloc (Below.refl _ _) (.cells #[.bool false, .slice none 0 0] 85)) nw)) k (by omega)
        have HE := Aside0.mk (val_take_succ l k)
        have HK := Aside0.mk (show k < l.length by omega)
        have hlast : l[k]? = some (l.getD k 0) := by rw [List.getD_eq_getElem?_getD, List.getElem?_eq_getElem (show k < l.length by omega)]; rfl
        have HL := Aside0.mk hlast
        clear hlast
        generalize l.getD k 0 = x at *
        by_cases hx : x = 0
        · subst hx
          go_wp2
          go_roundw
          case rel => exact ⟨k, by omega, rfl, ⟨by rw [← HV.out, HE.out]; simp⟩, ⟨nw, rfl⟩⟩
          case measure => simp
        · have HX := Aside0.mk hx
          have hxb : (x == 0) = false := by simpa using hx
          clear hx
          have HD := Aside0.mk (dig_take D.out (k + 1) HV.out (by
            intro y hy
            rw [List.getLast?_take, if_neg (by omega), Nat.add_sub_cancel, HL.out] at hy
            simp at hy
            rw [← hy]; exact HX.out))
          go_wp2
          refine bodyPost_ret (v := .agg #[.bool true, .slice (some ad) (k + 1) c]) (by simp [results, Try.results68, go_sem]) rfl ⟨by rw [HD.out, List.length_take, Nat.min_eq_left hm]; simp, ?_⟩
          repeat (first | exact Below.refl _ _ | refine below_set ?_ (Nat.le_refl _) | apply below_alloc | apply pw_below_drewN)
end Go.Proofs.Ytlaidcoickeihaa.Nb
namespace Go.Proofs.Ytlaidcoickeihaa.Nb
open Go.RowKit Go.Proofs.Ytlaidcoickeihaa.Wd.PrintWords Go.Proofs.Ytlaidcoickeihaa.Wd.PrintLast Go.Proofs.Ytlaidcoickeihaa.Wd.PrintMore Go.Proofs.Ytlaidcoickeihaa.Big
set_option synthInstance.maxSize 2000
set_option synthInstance.maxHeartbeats 400000
def sg (s : Bool) (n : Nat) : Int := if s = true then -(n : Int) else n
theorem sg_abs (s : Bool) (n : Nat) : (sg s n).natAbs = n := by unfold sg; split <;> omega
theorem sg_neg (s : Bool) (n : Nat) : decide (sg s n < 0) = (s && decide (0 < n)) := by
  unfold sg
  cases s <;> simp <;> omega
theorem sg_of (z : Int) : sg (decide (z < 0)) z.natAbs = z := by unfold sg; split <;> simp at * <;> omega
theorem dig_len_pos (n : Nat) : decide (0 < (dig n).length) = decide (0 < n) := by
  rw [decide_eq_decide]
  have := @dig_len_zero n
  omega
def BI (w : World) (ok : Nat → Prop) (v : Value) (z : Int) : Prop :=
  ∃ A c, v = .agg #[.bool (decide (z < 0)), .slice A (dig z.natAbs).length c] ∧ (dig z.natAbs).length ≤ c ∧ Wd w A (dig z.natAbs) ∧ ∀ ad, A = some ad → 0 < (dig z.natAbs).length → ok ad.block
theorem BI.below {w w' : World} {ok : Nat → Prop} {v : Value} {z : Int} (h : BI w ok v z) (hb : Below w.heap.size w w') : BI w' ok v z := by
  obtain ⟨A, c, e, hc, hw, ho⟩ := h
  exact ⟨A, c, e, hc, wd_below hw hb, ho⟩
theorem BI.mono {w : World} {ok ok' : Nat → Prop} {v : Value} {z : Int} (h : BI w ok v z) (hk : ∀ k, ok k → ok' k) : BI w ok' v z := by
  obtain ⟨A, c, e, hc, hw, ho⟩ := h
  exact ⟨A, c, e, hc, hw, fun ad ha hp => hk _ (ho ad ha hp)⟩
theorem BI.zero (w : World) (ok : Nat → Prop) : BI w ok (.agg #[.bool false, .slice none 0 0]) 0 := by
  refine ⟨none, 0, by rw [show (0 : Int).natAbs = 0 from rfl, dig_zero]; rfl, by rw [show (0 : Int).natAbs = 0 from rfl, dig_zero]; exact Nat.le_refl _, ?_, fun ad h => by cases h⟩
  rw [show (0 : Int).natAbs = 0 from rfl, dig_zero]
  exact ⟨rfl, by simp, fun h => by simp at h⟩
def NewI (w : World) (ok : Nat → Prop) (z : Int) (e : Ending) (w' : World) : Prop := ∃ v, e = .returned v ∧ BI w' ok v z ∧ Below w.heap.size w w'
theorem made_BI {w' : World} {B g : Nat} {s : Bool} {xs : List Int} {n : Nat} {z : Int} (ho : Own w' g xs) (hd : Dg xs) (hv : val xs = n) (hl : xs.length ≤ 9223372036854775807) (hg : B ≤ g) (hz : z = sg s n) :
    BI w' (fun k => B ≤ k) (.agg #[.bool (s && decide (0 < (dig (val xs).toNat).length)), .slice (some ⟨g, 0, none⟩) (dig (val xs).toNat).length xs.length]) z := by
  subst hz
  have e : (val xs).toNat = n := by omega
  refine ⟨some ⟨g, 0, none⟩, xs.length, by rw [sg_abs, sg_neg, e, dig_len_pos], ?_, ?_, fun ad ha _ => by cases ha; exact hg⟩
  · rw [sg_abs, ← e]; exact dig_len_pre hd
  · rw [sg_abs, ← e]; exact wd_dig (ho.wd hl) hd
theorem wd_set {w : World} {A : Option Addr} {l : List Int} (h : Wd w A l) {p : Addr} (hne : ∀ ad, A = some ad → 0 < l.length → ad.block ≠ p.block) (u : Value) : Wd (w.setCell p u) A l := by
  obtain ⟨h1, h2, h3⟩ := h
  refine ⟨h1, h2, fun hp => ?_⟩
  obtain ⟨ad, e, hc⟩ := h3 hp
  refine ⟨ad, e, fun j q hj => ?_⟩
  obtain ⟨c, hl, hk, hcell⟩ := hc j q hj
  refine ⟨c, hl, hk, fun i v hi => ?_⟩
  rw [← hcell i v hi]
  refine World.cell?_setCell_other _ _ _ _ (fun e' => hne ad e hp ?_)
  rw [e', add_block]
theorem BI.set {w : World} {B : Nat} {v : Value} {z : Int} (h : BI w (fun k => B ≤ k) v z) {p : Addr} (hp : p.block < B) (u : Value) : BI (w.setCell p u) (fun k => B ≤ k) v z := by
  obtain ⟨A, c, e, hc, hw, ho⟩ := h
  exact ⟨A, c, e, hc, wd_set hw (fun ad ha hl => by have := ho ad ha hl; omega) u, ho⟩
theorem c_new {W : World} {cs : Array Value} {t : TypeId} {n i : Nat} {v : Value} (hn : n = W.heap.size) (hv : cs[i]? = some v) : (W.alloc (.cells cs t)).cell? ⟨n, i, none⟩ = some v := by
  subst hn
  exact (blk_cell (blk_new W (.cells cs t)) i).trans hv
theorem c_low' {W : World} {o : Obj} {p : Addr} {v : Value} (h : W.cell? p = some v) : (W.alloc o).cell? p = some v := (World.cell?_alloc_lt _ _ _ (World.block_lt_of_cell? _ _ h)).trans h
theorem c_drew {W : World} {p : Addr} {v : Value} (h : W.cell? p = some v) : W.drew.cell? p = some v := h
theorem f_drew {W : World} {p : Addr} (h : W.frozen? p = false) : W.drew.frozen? p = false := h
theorem f_new {W : World} {cs : Array Value} {t : TypeId} {n i : Nat} (hn : n = W.heap.size) : (W.alloc (.cells cs t)).frozen? ⟨n, i, none⟩ = false := by
  subst hn
  exact blk_frozen (blk_new W (.cells cs t)) i
theorem f_low {W : World} {o : Obj} {p : Addr} (hl : p.block < W.heap.size) (h : W.frozen? p = false) : (W.alloc o).frozen? p = false := ((below_alloc (Below.refl _ W) o : Below W.heap.size W _).frozen hl).trans h
theorem kc {W w1 : World} {p : Addr} {v : Value} (hb : Below W.heap.size W w1) (h : W.cell? p = some v) : w1.cell? p = some v := (hb.cell (World.block_lt_of_cell? _ _ h)).trans h
theorem kf {W w1 : World} {p : Addr} {v : Value} (hb : Below W.heap.size W w1) (h : W.cell? p = some v) (hf : W.frozen? p = false) : w1.frozen? p = false := (hb.frozen (World.block_lt_of_cell? _ _ h)).trans hf
theorem kset {W : World} {p q : Addr} {u v : Value} (hne : p.block ≠ q.block) (h : W.cell? p = some v) : (W.setCell q u).cell? p = some v := by
  rw [← h]
  exact World.cell?_setCell_other _ _ _ _ (fun e => hne (by rw [e]))
def CL (W : World) : List Addr → List Value → Prop
  | p :: ps, v :: vs => W.cell? p = some v ∧ CL W ps vs
  | _, _ => True
theorem cl_n (W : World) : CL W [] [] := trivial
theorem cl_c {W : World} {p : Addr} {v : Value} {ps : List Addr} {vs : List Value} (h : W.cell? p = some v) (t : CL W ps vs) : CL W (p :: ps) (v :: vs) := ⟨h, t⟩
theorem cl_imp {W w1 : World} (hi : ∀ p v, W.cell? p = some v → w1.cell? p = some v) : ∀ {ps : List Addr} {vs : List Value}, CL W ps vs → CL w1 ps vs
  | [], _, _ => by unfold CL; trivial
  | _ :: _, [], _ => by unfold CL; trivial
  | _ :: _, _ :: _, h => ⟨hi _ _ h.1, cl_imp hi h.2⟩
theorem cl_below {W w1 : World} {ps : List Addr} {vs : List Value} (hb : Below W.heap.size W w1) (h : CL W ps vs) : CL w1 ps vs := cl_imp (fun _ _ => kc hb) h
theorem cl_alloc {W : World} {ps : List Addr} {vs : List Value} (h : CL W ps vs) (o : Obj) : CL (W.alloc o) ps vs := cl_imp (fun _ _ => c_low') h
theorem cl_drew {W : World} {ps : List Addr} {vs : List Value} (h : CL W ps vs) : CL W.drew ps vs := cl_imp (fun _ _ => c_drew) h
def FZ (W : World) : List Addr → Prop
  | p :: ps => (p.block < W.heap.size ∧ W.frozen? p = false) ∧ FZ W ps
  | [] => True
theorem fz_n (W : World) : FZ W [] := trivial
theorem fz_c {W : World} {p : Addr} {ps : List Addr} (hl : p.block < W.heap.size) (h : W.frozen? p = false) (t : FZ W ps) : FZ W (p :: ps) := ⟨⟨hl, h⟩, t⟩
theorem fz_cc {W : World} {p : Addr} {v : Value} {ps : List Addr} (hc : W.cell? p = some v) (h : W.frozen? p = false) (t : FZ W ps) : FZ W (p :: ps) := ⟨⟨World.block_lt_of_cell? _ _ hc, h⟩, t⟩
theorem fz_below {W w1 : World} (hb : Below W.heap.size W w1) : ∀ {ps : List Addr}, FZ W ps → FZ w1 ps
  | [], _ => trivial
  | _ :: _, h => ⟨⟨Nat.lt_of_lt_of_le h.1.1 hb.size, (hb.frozen h.1.1).trans h.1.2⟩, fz_below hb h.2⟩
theorem fz_alloc {W : World} {ps : List Addr} (h : FZ W ps) (o : Obj) : FZ (W.alloc o) ps := fz_below (below_alloc (Below.refl _ _) o) h
theorem fz_drew {W : World} {ps : List Addr} (h : FZ W ps) : FZ W.drew ps := fz_below (below_drew (Below.refl _ _)) h
theorem by_ne1 (n : Nat) : n ≠ n + 1 := by omega
theorem by_ne2 (n : Nat) : n ≠ n + 1 + 1 := by omega
theorem by_ne4 (n : Nat) : n ≠ n + 1 + 1 + 1 := by omega
theorem le_two (n : Nat) : n ≤ n + 1 + 1 := by omega
theorem le_three (n : Nat) : n ≤ n + 1 + 1 + 1 := by omega
class Kn (P : Prop) : Prop where
  out : P
class FzK (W : World) (p : Addr) : Prop where
  out : p.block < W.heap.size ∧ W.frozen? p = false
class Sz (W : World) (n : Nat) : Prop where
  out : n = W.heap.size
class Ix (l : List Value) (i : Nat) (v : Value) : Prop where
  out : l[i]? = some v
instance sz_0 (W : World) : Sz W W.heap.size := ⟨rfl⟩
instance sz_1 (W : World) (o : Obj) (n : Nat) [h : Sz W n] : Sz (W.alloc o) (n + 1) := ⟨by rw [h.out]; simp⟩
instance ix_0 (v : Value) (l : List Value) : Ix (v :: l) 0 v := ⟨rfl⟩
instance ix_1 (a v : Value) (l : List Value) (i : Nat) [h : Ix l i v] : Ix (a :: l) (i + 1) v := ⟨h.out⟩
instance kn_b0 (w : World) : Kn (Below w.heap.size w w) := ⟨Below.refl _ _⟩
instance kn_bd (w W : World) [h : Kn (Below w.heap.size w W)] : Kn (Below w.heap.size w W.drew) := ⟨below_drew h.out⟩
instance kn_ba (w W : World) (o : Obj) [h : Kn (Below w.heap.size w W)] : Kn (Below w.heap.size w (W.alloc o)) := ⟨below_alloc h.out o⟩
instance kn_bs (w W : World) (g i : Nat) (u : Value) [h : Kn (Below w.heap.size w W)] [k : Kn (w.heap.size ≤ g)] : Kn (Below w.heap.size w (W.setCell ⟨g, i, none⟩ u)) := ⟨below_set h.out k.out⟩
instance kn_l0 (n : Nat) : Kn (n ≤ n) := ⟨Nat.le_refl _⟩
instance kn_l1 (n : Nat) : Kn (n ≤ n + 1) := ⟨Nat.le_add_right _ _⟩
instance kn_l2 (n : Nat) : Kn (n ≤ n + 1 + 1) := ⟨le_two _⟩
instance kn_l3 (n : Nat) : Kn (n ≤ n + 1 + 1 + 1) := ⟨le_three _⟩
instance kn_cd (W : World) (p : Addr) (v : Value) [h : Kn (W.cell? p = some v)] : Kn (W.drew.cell? p = some v) := ⟨h.out⟩
instance kn_ca (W : World) (o : Obj) (p : Addr) (v : Value) [h : Kn (W.cell? p = some v)] : Kn ((W.alloc o).cell? p = some v) := ⟨c_low' h.out⟩
instance kn_cn (W : World) (l : List Value) (t : TypeId) (n i : Nat) (v : Value) [h : Sz W n] [k : Ix l i v] : Kn ((W.alloc (.cells (List.toArray l) t)).cell? ⟨n, i, none⟩ = some v) := ⟨c_new h.out (by simpa using k.out)⟩
instance kn_cs (W : World) (p q : Addr) (u v : Value) [h : Kn (W.cell? p = some v)] [k : Kn (p.block ≠ q.block)] : Kn ((W.setCell q u).cell? p = some v) := ⟨kset k.out h.out⟩
instance kn_n1 (n i j : Nat) (a b : Option Nat) : Kn ((Addr.mk n i a).block ≠ (Addr.mk (n + 1) j b).block) := ⟨by_ne1 n⟩
instance kn_n2 (n i j : Nat) (a b : Option Nat) : Kn ((Addr.mk n i a).block ≠ (Addr.mk (n + 1 + 1) j b).block) := ⟨by_ne2 n⟩
instance kn_n3 (n i j : Nat) (a b : Option Nat) : Kn ((Addr.mk n i a).block ≠ (Addr.mk (n + 1 + 1 + 1) j b).block) := ⟨by_ne4 n⟩
instance kn_fd (W : World) (p : Addr) [h : FzK W p] : FzK W.drew p := ⟨h.out⟩
instance kn_fa (W : World) (o : Obj) (p : Addr) [h : FzK W p] : FzK (W.alloc o) p := ⟨⟨by have := h.out.1; simp; omega, f_low h.out.1 h.out.2⟩⟩
instance kn_fn (W : World) (l : List Value) (t : TypeId) (n i : Nat) [h : Sz W n] : FzK (W.alloc (.cells (List.toArray l) t)) ⟨n, i, none⟩ := ⟨⟨by have := h.out; simp; omega, f_new h.out⟩⟩
instance kn_cl_n (W : World) : Kn (CL W [] []) := ⟨cl_n W⟩
instance kn_cl_c (W : World) (p : Addr) (v : Value) (ps : List Addr) (vs : List Value) [h : Kn (W.cell? p = some v)] [t : Kn (CL W ps vs)] : Kn (CL W (p :: ps) (v :: vs)) := ⟨cl_c h.out t.out⟩
instance (priority := low) kn_cl_d (W : World) (ps : List Addr) (vs : List Value) [h : Kn (CL W ps vs)] : Kn (CL W.drew ps vs) := ⟨cl_drew h.out⟩
instance (priority := low) kn_cl_a (W : World) (o : Obj) (ps : List Addr) (vs : List Value) [h : Kn (CL W ps vs)] : Kn (CL (W.alloc o) ps vs) := ⟨cl_alloc h.out o⟩
instance kn_fz_n (W : World) : Kn (FZ W []) := ⟨fz_n W⟩
instance kn_fz_c (W : World) (p : Addr) (ps : List Addr) [h : FzK W p] [t : Kn (FZ W ps)] : Kn (FZ W (p :: ps)) := ⟨fz_c h.out.1 h.out.2 t.out⟩
instance (priority := low) kn_fz_d (W : World) (ps : List Addr) [h : Kn (FZ W ps)] : Kn (FZ W.drew ps) := ⟨fz_drew h.out⟩
instance (priority := low) kn_fz_a (W : World) (o : Obj) (ps : List Addr) [h : Kn (FZ W ps)] : Kn (FZ (W.alloc o) ps) := ⟨fz_alloc h.out o⟩
theorem kn_b {w0 W W1 : World} (hb : Below W.heap.size W W1) [h : Kn (Below w0.heap.size w0 W)] : Kn (Below w0.heap.size w0 W1) := ⟨below_step h.out hb⟩
theorem kn_c {W W1 : World} {ps : List Addr} {vs : List Value} (hb : Below W.heap.size W W1) [h : Kn (CL W ps vs)] : Kn (CL W1 ps vs) := ⟨cl_below hb h.out⟩
theorem kn_f {W W1 : World} {ps : List Addr} (hb : Below W.heap.size W W1) [h : Kn (FZ W ps)] : Kn (FZ W1 ps) := ⟨fz_below hb h.out⟩
set_option maxHeartbeats 4000000 in
set_option maxRecDepth 100000 in
theorem add_same (w : World) (s : Bool) (m n : Nat) (A0 A1 : Option Addr) (c0 c1 : Nat) (h0 : Wd w A0 (dig m)) (h1 : Wd w A1 (dig n)) (hm : (dig m).length ≤ 35184372088832) (hn : (dig n).length ≤ 35184372088832) :
    Calls Try.prog 57 #[.agg #[.bool s, .slice A0 (dig m).length c0], .agg #[.bool s, .slice A1 (dig n).length c1]] w (NewI w (fun k => w.heap.size ≤ k) (sg s m + sg s n)) := by
  have H0 := Aside0.mk h0
  have H1 := Aside0.mk h1
  have hm2 : (dig m).length ≤ 70368744177000 := by omega
  have hn2 : (dig n).length ≤ 70368744177000 := by omega
  clear h0 h1
  go_enter Try.func57, Try.ntmps57
  go_wp2
  go_region_held3 (fun W => W.cell? ⟨w.heap.size, 0, none⟩ = some (.bool s) ∧ W.cell? ⟨w.heap.size, 1, none⟩ = some (.slice A0 (dig m).length c0) ∧ W.cell? ⟨w.heap.size + 1, 0, none⟩ = some (.bool s) ∧ W.cell? ⟨w.heap.size + 1, 1, none⟩ = some (.slice A1 (dig n).length c1) ∧ Kn (Below w.heap.size w W)) (((repeat' apply And.intro) <;> first | with_reducible assumption | exact Kn.out | infer_instance | ((try (with_reducible refine c_drew ?_)); (repeat' (first | with_reducible refine kset Kn.out ?_ | with_reducible refine kset ‹_› ?_ | with_reducible refine c_low' ?_)); with_reducible assumption))) ((first | (go_at_call 73; (with_reducible refine (plus_any _ A0 A1 c0 c1 (dig m) (dig n) (wd_below H0.out ?hb1) (wd_below H1.out ?hb1) (dig_dg m) (dig_dg n) hm2 hn2).mono ?_); (case hb1 => first | exact Kn.out | with_reducible exact Aside0.out ‹_›); rintro e w1 ⟨g, xs, rfl, hg, ho, hd, hp, hb⟩; have qB0 := kn_b (w0 := w) hb; have qC0 : Kn (CL _ [⟨w.heap.size, 0, none⟩, ⟨w.heap.size, 1, none⟩, ⟨w.heap.size + 1, 0, none⟩, ⟨w.heap.size + 1, 1, none⟩, ⟨w.heap.size + 1 + 1, 0, none⟩, ⟨w.heap.size + 1 + 1, 1, none⟩] [.bool s, .slice A0 (dig m).length c0, .bool s, .slice A1 (dig n).length c1, .bool false, .slice none 0 0]) := kn_c hb; obtain ⟨q0_0, q0_1, q0_2, q0_3, q0_4, q0_5, -⟩ := qC0.out; have qF0 : Kn (FZ _ [⟨w.heap.size + 1 + 1, 0, none⟩, ⟨w.heap.size + 1 + 1, 1, none⟩]) := kn_f hb; obtain ⟨⟨-, f0_0⟩, ⟨-, f0_1⟩, -⟩ := qF0.out; clear hb; have HP := Aside0.mk hp; have HO := Aside0.mk ho; have HD := Aside0.mk hd; clear hp ho hd) | (go_at_call 68; (with_reducible refine (made_any _ (some ⟨g, 0, none⟩) xs.length s xs (HO.out.wd ?hl1) HD.out (Nat.le_refl _)).mono ?_); (case hl1 => have := HP.out.1; omega); rintro e w2 ⟨rfl, hb⟩; have HO2 := Aside0.mk (HO.out.below hb); have qB1 := kn_b (w0 := w) hb; have qC1 : Kn (CL _ [⟨w.heap.size, 0, none⟩, ⟨w.heap.size, 1, none⟩, ⟨w.heap.size + 1, 0, none⟩, ⟨w.heap.size + 1, 1, none⟩, ⟨w.heap.size + 1 + 1, 0, none⟩, ⟨w.heap.size + 1 + 1, 1, none⟩] [.bool s, .slice A0 (dig m).length c0, .bool s, .slice A1 (dig n).length c1, .bool false, .slice none 0 0]) := kn_c hb; obtain ⟨q1_0, q1_1, q1_2, q1_3, q1_4, q1_5, -⟩ := qC1.out; have qF1 : Kn (FZ _ [⟨w.heap.size + 1 + 1, 0, none⟩, ⟨w.heap.size + 1 + 1, 1, none⟩]) := kn_f hb; obtain ⟨⟨-, f1_0⟩, ⟨-, f1_1⟩, -⟩ := qF1.out; clear hb)))
  go_wp2
  refine bodyPost_ret (v := .agg #[.bool (s && decide (0 < (dig (val xs).toNat).length)), .slice (some ⟨g, 0, none⟩) (dig (val xs).toNat).length xs.length]) (by simp [results, Try.results57, go_sem, q1_4, q1_5]) rfl ⟨_, rfl, ?_, ?_⟩
  · refine ((BI.set (BI.set (made_BI (B := w.heap.size + 1 + 1 + 1) (n := m + n) HO2.out HD.out ?_ ?_ ?_ ?_) (by simp) _) (by simp) _).mono fun k hk => by omega)
    · rw [HP.out.2, dig_val, dig_val]; omega
    · have := HP.out.1; omega
    · simpa using hg
    · unfold sg; split <;> omega
  · exact below_set (below_set qB1.out (le_two _)) (le_two _)
theorem sizeI_dig (m n : Nat) : sizeI (dig m) (dig n) = cmpI m n := by
  unfold sizeI
  by_cases h : (dig m).length < (dig n).length
  · rw [if_pos h]; have := lt_of_dig_len h; unfold cmpI; rw [if_pos (by omega)]
  · rw [if_neg h]
    by_cases h' : (dig n).length < (dig m).length
    · rw [if_pos h']; have := lt_of_dig_len h'; unfold cmpI; rw [if_neg (by omega), if_pos (by omega)]
    · rw [if_neg h', dig_val, dig_val]
theorem dig_le {m n : Nat} (h : n ≤ m) : val (dig n) ≤ val (dig m) := by rw [dig_val, dig_val]; omega
theorem sizes_is (w : World) (A0 A1 : Option Addr) (c0 c1 : Nat) (a b : List Int) (r : Int) (h0 : Wd w A0 a) (h1 : Wd w A1 b) (d0 : Dg a) (d1 : Dg b) (hr : sizeI a b = r) :
    Calls Try.prog 74 #[.slice A0 a.length c0, .slice A1 b.length c1] w fun e w' => e = .returned (.int .i64 r) ∧ Below w.heap.size w w' :=
  (sizes_any w A0 A1 c0 c1 a b h0 h1 d0 d1).mono fun e w' h => ⟨hr ▸ h.1, h.2.below⟩
set_option maxHeartbeats 4000000 in
set_option maxRecDepth 100000 in
theorem add_gt (w : World) (s : Bool) (m n : Nat) (A0 A1 : Option Addr) (c0 c1 : Nat) (h0 : Wd w A0 (dig m)) (h1 : Wd w A1 (dig n)) (hm : (dig m).length ≤ 35184372088832) (hn : (dig n).length ≤ 35184372088832) (hlt : n < m) :
    Calls Try.prog 57 #[.agg #[.bool s, .slice A0 (dig m).length c0], .agg #[.bool (!s), .slice A1 (dig n).length c1]] w (NewI w (fun k => w.heap.size ≤ k) (sg s m + sg (!s) n)) := by
  have H0 := Aside0.mk h0
  have H1 := Aside0.mk h1
  have hm2 : (dig m).length ≤ 70368744177000 := by omega
  have hn2 : (dig n).length ≤ 70368744177000 := by omega
  have HR := Aside0.mk (show sizeI (dig m) (dig n) = 1 by rw [sizeI_dig]; unfold cmpI; rw [if_neg (by omega), if_pos (by omega)])
  have HLT := Aside0.mk hlt
  have hsb : (s == !s) = false := by cases s <;> rfl
  clear h0 h1 hlt
  go_enter Try.func57, Try.ntmps57
  go_wp2_with (go_at_call 74; (with_reducible refine (sizes_is _ A0 A1 c0 c1 (dig m) (dig n) _ (wd_below H0.out ?hb1) (wd_below H1.out ?hb1) (dig_dg m) (dig_dg n) HR.out).mono ?_); (case hb1 => first | exact Kn.out | with_reducible exact Aside0.out ‹_›); rintro e w1 ⟨rfl, hb⟩; have qB0 := kn_b (w0 := w) hb; have qC0 : Kn (CL _ [⟨w.heap.size, 0, none⟩, ⟨w.heap.size, 1, none⟩, ⟨w.heap.size + 1, 0, none⟩, ⟨w.heap.size + 1, 1, none⟩, ⟨w.heap.size + 1 + 1, 0, none⟩, ⟨w.heap.size + 1 + 1, 1, none⟩] [.bool s, .slice A0 (dig m).length c0, .bool (!s), .slice A1 (dig n).length c1, .bool false, .slice none 0 0]) := kn_c hb; obtain ⟨q0_0, q0_1, q0_2, q0_3, q0_4, q0_5, -⟩ := qC0.out; have qF0 : Kn (FZ _ [⟨w.heap.size + 1 + 1, 0, none⟩, ⟨w.heap.size + 1 + 1, 1, none⟩]) := kn_f hb; obtain ⟨⟨-, f0_0⟩, ⟨-, f0_1⟩, -⟩ := qF0.out; clear hb)
  go_region_held3 (fun W => W.cell? ⟨w.heap.size, 0, none⟩ = some (.bool s) ∧ W.cell? ⟨w.heap.size, 1, none⟩ = some (.slice A0 (dig m).length c0) ∧ W.cell? ⟨w.heap.size + 1, 0, none⟩ = some (.bool (!s)) ∧ W.cell? ⟨w.heap.size + 1, 1, none⟩ = some (.slice A1 (dig n).length c1) ∧ Kn (Below w.heap.size w W)) (((repeat' apply And.intro) <;> first | with_reducible assumption | exact Kn.out | infer_instance | ((try (with_reducible refine c_drew ?_)); (repeat' (first | with_reducible refine kset Kn.out ?_ | with_reducible refine kset ‹_› ?_ | with_reducible refine c_low' ?_)); with_reducible assumption))) ((first | (go_at_call 75; (with_reducible refine (less_any _ A0 A1 c0 c1 (dig m) (dig n) (wd_below H0.out ?hb2) (wd_below H1.out ?hb2) (dig_dg m) (dig_dg n) hm2 (Nat.le_of_lt_succ (Nat.lt_succ_of_le (dig_len_mono (Nat.le_of_lt HLT.out)))) (dig_le (Nat.le_of_lt HLT.out))).mono ?_); (case hb2 => first | exact Kn.out | with_reducible exact Aside0.out ‹_›); rintro e w2 ⟨g, xs, rfl, hg, ho, hd, hp, hb⟩; have qB1 := kn_b (w0 := w) hb; have qC1 : Kn (CL _ [⟨w.heap.size, 0, none⟩, ⟨w.heap.size, 1, none⟩, ⟨w.heap.size + 1, 0, none⟩, ⟨w.heap.size + 1, 1, none⟩, ⟨w.heap.size + 1 + 1, 0, none⟩, ⟨w.heap.size + 1 + 1, 1, none⟩] [.bool s, .slice A0 (dig m).length c0, .bool (!s), .slice A1 (dig n).length c1, .bool false, .slice none 0 0]) := kn_c hb; obtain ⟨q1_0, q1_1, q1_2, q1_3, q1_4, q1_5, -⟩ := qC1.out; have qF1 : Kn (FZ _ [⟨w.heap.size + 1 + 1, 0, none⟩, ⟨w.heap.size + 1 + 1, 1, none⟩]) := kn_f hb; obtain ⟨⟨-, f1_0⟩, ⟨-, f1_1⟩, -⟩ := qF1.out; clear hb; have HP := Aside0.mk hp; have HO := Aside0.mk ho; have HD := Aside0.mk hd; clear hp ho hd) | (go_at_call 68; (with_reducible refine (made_any _ (some ⟨g, 0, none⟩) xs.length s xs (HO.out.wd ?hl1) HD.out (Nat.le_refl _)).mono ?_); (case hl1 => have := HP.out.1; omega); rintro e w3 ⟨rfl, hb⟩; have HO2 := Aside0.mk (HO.out.below hb); have qB2 := kn_b (w0 := w) hb; have qC2 : Kn (CL _ [⟨w.heap.size, 0, none⟩, ⟨w.heap.size, 1, none⟩, ⟨w.heap.size + 1, 0, none⟩, ⟨w.heap.size + 1, 1, none⟩, ⟨w.heap.size + 1 + 1, 0, none⟩, ⟨w.heap.size + 1 + 1, 1, none⟩] [.bool s, .slice A0 (dig m).length c0, .bool (!s), .slice A1 (dig n).length c1, .bool false, .slice none 0 0]) := kn_c hb; obtain ⟨q2_0, q2_1, q2_2, q2_3, q2_4, q2_5, -⟩ := qC2.out; have qF2 : Kn (FZ _ [⟨w.heap.size + 1 + 1, 0, none⟩, ⟨w.heap.size + 1 + 1, 1, none⟩]) := kn_f hb; obtain ⟨⟨-, f2_0⟩, ⟨-, f2_1⟩, -⟩ := qF2.out; clear hb)))
  go_wp2
  refine bodyPost_ret (v := .agg #[.bool (s && decide (0 < (dig (val xs).toNat).length)), .slice (some ⟨g, 0, none⟩) (dig (val xs).toNat).length xs.length]) (by simp [results, Try.results57, go_sem, q2_4, q2_5]) rfl ⟨_, rfl, ?_, ?_⟩
  · refine ((BI.set (BI.set (made_BI (B := w.heap.size + 1 + 1 + 1) (n := m - n) HO2.out HD.out ?_ ?_ ?_ ?_) (by simp) _) (by simp) _).mono fun k hk => by omega)
    · rw [HP.out.2, dig_val, dig_val]; have := HLT.out; omega
    · have := HP.out.1; omega
    · have h2 := qB0.out.size; have := q0_5; have h3 := World.block_lt_of_cell? _ _ this; have : w1.heap.size ≤ g := by simpa using hg
      simp only [] at h3; omega
    · have := HLT.out; unfold sg; cases s <;> simp <;> omega
  · exact below_set (below_set qB2.out (le_two _)) (le_two _)
set_option maxHeartbeats 4000000 in
set_option maxRecDepth 100000 in
theorem add_lt (w : World) (s : Bool) (m n : Nat) (A0 A1 : Option Addr) (c0 c1 : Nat) (h0 : Wd w A0 (dig m)) (h1 : Wd w A1 (dig n)) (hm : (dig m).length ≤ 35184372088832) (hn : (dig n).length ≤ 35184372088832) (hlt : m < n) :
    Calls Try.prog 57 #[.agg #[.bool s, .slice A0 (dig m).length c0], .agg #[.bool (!s), .slice A1 (dig n).length c1]] w (NewI w (fun k => w.heap.size ≤ k) (sg s m + sg (!s) n)) := by
  have H0 := Aside0.mk h0
  have H1 := Aside0.mk h1
  have hm2 : (dig m).length ≤ 70368744177000 := by omega
  have hn2 : (dig n).length ≤ 70368744177000 := by omega
  have HR := Aside0.mk (show sizeI (dig m) (dig n) = -1 by rw [sizeI_dig]; unfold cmpI; rw [if_pos (by omega)])
  have HLT := Aside0.mk hlt
  have hsb : (s == !s) = false := by cases s <;> rfl
  clear h0 h1 hlt
  go_enter Try.func57, Try.ntmps57
  go_wp2_with (go_at_call 74; (with_reducible refine (sizes_is _ A0 A1 c0 c1 (dig m) (dig n) _ (wd_below H0.out ?hb1) (wd_below H1.out ?hb1) (dig_dg m) (dig_dg n) HR.out).mono ?_); (case hb1 => first | exact Kn.out | with_reducible exact Aside0.out ‹_›); rintro e w1 ⟨rfl, hb⟩; have qB0 := kn_b (w0 := w) hb; have qC0 : Kn (CL _ [⟨w.heap.size, 0, none⟩, ⟨w.heap.size, 1, none⟩, ⟨w.heap.size + 1, 0, none⟩, ⟨w.heap.size + 1, 1, none⟩, ⟨w.heap.size + 1 + 1, 0, none⟩, ⟨w.heap.size + 1 + 1, 1, none⟩] [.bool s, .slice A0 (dig m).length c0, .bool (!s), .slice A1 (dig n).length c1, .bool false, .slice none 0 0]) := kn_c hb; obtain ⟨q0_0, q0_1, q0_2, q0_3, q0_4, q0_5, -⟩ := qC0.out; have qF0 : Kn (FZ _ [⟨w.heap.size + 1 + 1, 0, none⟩, ⟨w.heap.size + 1 + 1, 1, none⟩]) := kn_f hb; obtain ⟨⟨-, f0_0⟩, ⟨-, f0_1⟩, -⟩ := qF0.out; clear hb)
  go_region_held3 (fun W => W.cell? ⟨w.heap.size, 0, none⟩ = some (.bool s) ∧ W.cell? ⟨w.heap.size, 1, none⟩ = some (.slice A0 (dig m).length c0) ∧ W.cell? ⟨w.heap.size + 1, 0, none⟩ = some (.bool (!s)) ∧ W.cell? ⟨w.heap.size + 1, 1, none⟩ = some (.slice A1 (dig n).length c1) ∧ Kn (Below w.heap.size w W)) (((repeat' apply And.intro) <;> first | with_reducible assumption | exact Kn.out | infer_instance | ((try (with_reducible refine c_drew ?_)); (repeat' (first | with_reducible refine kset Kn.out ?_ | with_reducible refine kset ‹_› ?_ | with_reducible refine c_low' ?_)); with_reducible assumption))) ((first | (go_at_call 75; (with_reducible refine (less_any _ A1 A0 c1 c0 (dig n) (dig m) (wd_below H1.out ?hb2) (wd_below H0.out ?hb2) (dig_dg n) (dig_dg m) hn2 (Nat.le_of_lt_succ (Nat.lt_succ_of_le (dig_len_mono (Nat.le_of_lt HLT.out)))) (dig_le (Nat.le_of_lt HLT.out))).mono ?_); (case hb2 => first | exact Kn.out | with_reducible exact Aside0.out ‹_›); rintro e w2 ⟨g, xs, rfl, hg, ho, hd, hp, hb⟩; have qB1 := kn_b (w0 := w) hb; have qC1 : Kn (CL _ [⟨w.heap.size, 0, none⟩, ⟨w.heap.size, 1, none⟩, ⟨w.heap.size + 1, 0, none⟩, ⟨w.heap.size + 1, 1, none⟩, ⟨w.heap.size + 1 + 1, 0, none⟩, ⟨w.heap.size + 1 + 1, 1, none⟩] [.bool s, .slice A0 (dig m).length c0, .bool (!s), .slice A1 (dig n).length c1, .bool false, .slice none 0 0]) := kn_c hb; obtain ⟨q1_0, q1_1, q1_2, q1_3, q1_4, q1_5, -⟩ := qC1.out; have qF1 : Kn (FZ _ [⟨w.heap.size + 1 + 1, 0, none⟩, ⟨w.heap.size + 1 + 1, 1, none⟩]) := kn_f hb; obtain ⟨⟨-, f1_0⟩, ⟨-, f1_1⟩, -⟩ := qF1.out; clear hb; have HP := Aside0.mk hp; have HO := Aside0.mk ho; have HD := Aside0.mk hd; clear hp ho hd) | (go_at_call 68; (with_reducible refine (made_any _ (some ⟨g, 0, none⟩) xs.length (!s) xs (HO.out.wd ?hl1) HD.out (Nat.le_refl _)).mono ?_); (case hl1 => have := HP.out.1; omega); rintro e w3 ⟨rfl, hb⟩; have HO2 := Aside0.mk (HO.out.below hb); have qB2 := kn_b (w0 := w) hb; have qC2 : Kn (CL _ [⟨w.heap.size, 0, none⟩, ⟨w.heap.size, 1, none⟩, ⟨w.heap.size + 1, 0, none⟩, ⟨w.heap.size + 1, 1, none⟩, ⟨w.heap.size + 1 + 1, 0, none⟩, ⟨w.heap.size + 1 + 1, 1, none⟩] [.bool s, .slice A0 (dig m).length c0, .bool (!s), .slice A1 (dig n).length c1, .bool false, .slice none 0 0]) := kn_c hb; obtain ⟨q2_0, q2_1, q2_2, q2_3, q2_4, q2_5, -⟩ := qC2.out; have qF2 : Kn (FZ _ [⟨w.heap.size + 1 + 1, 0, none⟩, ⟨w.heap.size + 1 + 1, 1, none⟩]) := kn_f hb; obtain ⟨⟨-, f2_0⟩, ⟨-, f2_1⟩, -⟩ := qF2.out; clear hb)))
  go_wp2
  refine bodyPost_ret (v := .agg #[.bool ((!s) && decide (0 < (dig (val xs).toNat).length)), .slice (some ⟨g, 0, none⟩) (dig (val xs).toNat).length xs.length]) (by simp [results, Try.results57, go_sem, q2_4, q2_5]) rfl ⟨_, rfl, ?_, ?_⟩
  · refine ((BI.set (BI.set (made_BI (B := w.heap.size + 1 + 1 + 1) (n := n - m) HO2.out HD.out ?_ ?_ ?_ ?_) (by simp) _) (by simp) _).mono fun k hk => by omega)
    · rw [HP.out.2, dig_val, dig_val]; have := HLT.out; omega
    · have := HP.out.1; omega
    · have h2 := qB0.out.size; have := q0_5; have h3 := World.block_lt_of_cell? _ _ this; have : w1.heap.size ≤ g := by simpa using hg
      simp only [] at h3; omega
    · have := HLT.out; unfold sg; cases s <;> simp <;> omega
  · exact below_set (below_set qB2.out (le_two _)) (le_two _)
set_option maxHeartbeats 4000000 in
set_option maxRecDepth 100000 in
theorem add_eq (w : World) (s : Bool) (m n : Nat) (A0 A1 : Option Addr) (c0 c1 : Nat) (h0 : Wd w A0 (dig m)) (h1 : Wd w A1 (dig n)) (hm : (dig m).length ≤ 35184372088832) (hn : (dig n).length ≤ 35184372088832) (hlt : m = n) :
    Calls Try.prog 57 #[.agg #[.bool s, .slice A0 (dig m).length c0], .agg #[.bool (!s), .slice A1 (dig n).length c1]] w (NewI w (fun k => w.heap.size ≤ k) (sg s m + sg (!s) n)) := by
  have H0 := Aside0.mk h0
  have H1 := Aside0.mk h1
  have hm2 : (dig m).length ≤ 70368744177000 := by omega
  have hn2 : (dig n).length ≤ 70368744177000 := by omega
  have HR := Aside0.mk (show sizeI (dig m) (dig n) = 0 by rw [sizeI_dig]; unfold cmpI; rw [if_neg (by omega), if_neg (by omega)])
  have HLT := Aside0.mk hlt
  have hsb : (s == !s) = false := by cases s <;> rfl
  clear h0 h1 hlt
  go_enter Try.func57, Try.ntmps57
  go_wp2_with (go_at_call 74; (with_reducible refine (sizes_is _ A0 A1 c0 c1 (dig m) (dig n) _ (wd_below H0.out ?hb1) (wd_below H1.out ?hb1) (dig_dg m) (dig_dg n) HR.out).mono ?_); (case hb1 => first | exact Kn.out | with_reducible exact Aside0.out ‹_›); rintro e w1 ⟨rfl, hb⟩; have qB0 := kn_b (w0 := w) hb; have qC0 : Kn (CL _ [⟨w.heap.size, 0, none⟩, ⟨w.heap.size, 1, none⟩, ⟨w.heap.size + 1, 0, none⟩, ⟨w.heap.size + 1, 1, none⟩, ⟨w.heap.size + 1 + 1, 0, none⟩, ⟨w.heap.size + 1 + 1, 1, none⟩] [.bool s, .slice A0 (dig m).length c0, .bool (!s), .slice A1 (dig n).length c1, .bool false, .slice none 0 0]) := kn_c hb; obtain ⟨q0_0, q0_1, q0_2, q0_3, q0_4, q0_5, -⟩ := qC0.out; have qF0 : Kn (FZ _ [⟨w.heap.size + 1 + 1, 0, none⟩, ⟨w.heap.size + 1 + 1, 1, none⟩]) := kn_f hb; obtain ⟨⟨-, f0_0⟩, ⟨-, f0_1⟩, -⟩ := qF0.out; clear hb)
  refine bodyPost_ret (v := .agg #[.bool false, .slice none 0 0]) (by simp [results, Try.results57, go_sem, q0_4, q0_5]) rfl ⟨_, rfl, ?_, ?_⟩
  · rw [show sg s m + sg (!s) n = 0 by have := HLT.out; unfold sg; cases s <;> simp <;> omega]; exact BI.zero _ _
  · exact below_set (below_set qB0.out (le_two _)) (le_two _)
end Go.Proofs.Ytlaidcoickeihaa.Nb
namespace Go.Proofs.Ytlaidcoickeihaa.Nb
open Go.RowKit Go.Proofs.Ytlaidcoickeihaa.Wd.PrintWords Go.Proofs.Ytlaidcoickeihaa.Wd.PrintLast Go.Proofs.Ytlaidcoickeihaa.Wd.PrintMore Go.Proofs.Ytlaidcoickeihaa.Big
set_option synthInstance.maxSize 2000
set_option synthInstance.maxHeartbeats 400000
abbrev arg (z : Int) (A : Option Addr) (c : Nat) : Value := .agg #[.bool (decide (z < 0)), .slice A (dig z.natAbs).length c]
theorem add_any (w : World) (x y : Int) (A0 A1 : Option Addr) (c0 c1 : Nat) (h0 : Wd w A0 (dig x.natAbs)) (h1 : Wd w A1 (dig y.natAbs)) (hm : (dig x.natAbs).length ≤ 35184372088832) (hn : (dig y.natAbs).length ≤ 35184372088832) :
    Calls Try.prog 57 #[arg x A0 c0, arg y A1 c1] w (NewI w (fun k => w.heap.size ≤ k) (x + y)) := by
  have H : ∀ s t : Bool, sg s x.natAbs = x → sg t y.natAbs = y → Calls Try.prog 57 #[.agg #[.bool s, .slice A0 (dig x.natAbs).length c0], .agg #[.bool t, .slice A1 (dig y.natAbs).length c1]] w (NewI w (fun k => w.heap.size ≤ k) (x + y)) := by
    intro s t hs ht
    by_cases e : t = s
    · subst e
      have := add_same w t x.natAbs y.natAbs A0 A1 c0 c1 h0 h1 hm hn
      rwa [hs, ht] at this
    · have e' : t = !s := by cases s <;> cases t <;> simp_all
      subst e'
      rcases Nat.lt_trichotomy x.natAbs y.natAbs with c | c | c
      · have := add_lt w s _ _ A0 A1 c0 c1 h0 h1 hm hn c
        rwa [hs, ht] at this
      · have := add_eq w s _ _ A0 A1 c0 c1 h0 h1 hm hn c
        rwa [hs, ht] at this
      · have := add_gt w s _ _ A0 A1 c0 c1 h0 h1 hm hn c
        rwa [hs, ht] at this
  exact H _ _ (sg_of x) (sg_of y)
theorem box3 (w : World) (a0 a1 b0 b1 r0 r1 : Value) (T : TypeId) : ∃ W0, W0 = ((w.alloc (.cells #[a0, a1] T)).alloc (.cells #[b0, b1] T)).alloc (.cells #[r0, r1] T) ∧ W0.heap.size = w.heap.size + 1 + 1 + 1 ∧
    (W0.cell? ⟨w.heap.size, 0, none⟩ = some a0 ∧ W0.cell? ⟨w.heap.size, 1, none⟩ = some a1 ∧ W0.cell? ⟨w.heap.size + 1, 0, none⟩ = some b0 ∧ W0.cell? ⟨w.heap.size + 1, 1, none⟩ = some b1 ∧ W0.cell? ⟨w.heap.size + 1 + 1, 0, none⟩ = some r0 ∧ W0.cell? ⟨w.heap.size + 1 + 1, 1, none⟩ = some r1) ∧
    (∀ i, W0.frozen? ⟨w.heap.size + 1 + 1, i, none⟩ = false) ∧ Below w.heap.size w W0 := by
  refine ⟨_, rfl, by simp, ⟨?_, ?_, ?_, ?_, ?_, ?_⟩, fun i => f_new (by simp), below_alloc (below_alloc (below_alloc (Below.refl _ _) _) _) _⟩
  · exact c_low' (c_low' (c_new rfl rfl))
  · exact c_low' (c_low' (c_new rfl rfl))
  · exact c_low' (c_new (by simp) rfl)
  · exact c_low' (c_new (by simp) rfl)
  · exact c_new (by simp) rfl
  · exact c_new (by simp) rfl
theorem Fill.set {w : World} {g n i : Nat} {xs : List Int} {W : World} (h : Fill w g n i xs W) (j : Nat) (hj : j < i) (v : Int) (hv : 0 ≤ v ∧ v < 4294967296) : Fill w g n i (xs.set j v) (W.setCell ⟨g, j, none⟩ (.int .u32 v)) :=
  ⟨h.own.set j v, below_set h.below h.base, h.base, by rw [List.length_set]; exact h.len, dg_set h.dg j hv, fun k hk => by
    rw [List.getD_eq_getElem?_getD, List.getElem?_set_ne (by omega), ← List.getD_eq_getElem?_getD]; exact h.zero k hk⟩
theorem Fill.more {w : World} {g n i j : Nat} {xs : List Int} {W : World} (h : Fill w g n i xs W) (hj : i ≤ j) : Fill w g n j xs W := ⟨h.own, h.below, h.base, h.len, h.dg, fun k hk => h.zero k (by omega)⟩
theorem mul_step {vx c va x y o p : Int} (h : vx + c * p = va) (t : Int) (ht : t = x * y + o + c) : vx + p * (t % 4294967296 - o) + t / 4294967296 * (p * 4294967296) = va + p * (x * y) := by
  have e := Int.emod_add_mul_ediv t 4294967296
  have : p * t = p * (t % 4294967296 + 4294967296 * (t / 4294967296)) := by rw [e]
  grind
theorem mul_bound {x y : Int} (hx : 0 ≤ x ∧ x < 4294967296) (hy : 0 ≤ y ∧ y < 4294967296) : 0 ≤ x * y ∧ x * y ≤ 18446744065119617025 := by
  refine ⟨Int.mul_nonneg hx.1 hy.1, ?_⟩
  have h1 : x * y ≤ 4294967295 * y := Int.mul_le_mul_of_nonneg_right (by omega) hy.1
  omega
set_option maxHeartbeats 4000000 in
set_option maxRecDepth 100000 in
theorem mul_raw (w : World) (s t : Bool) (a b : List Int) (A0 A1 : Option Addr) (c0 c1 : Nat) (h0 : Wd w A0 a) (h1 : Wd w A1 b) (d0 : Dg a) (d1 : Dg b) (hm : a.length ≤ 35184372088832) (hn : b.length ≤ 35184372088832) :
    Calls Try.prog 56 #[.agg #[.bool s, .slice A0 a.length c0], .agg #[.bool t, .slice A1 b.length c1]] w (NewI w (fun k => w.heap.size ≤ k) (sg (s != t) (val a * val b).toNat)) := by
  have H0 := Aside0.mk h0
  have H1 := Aside0.mk h1
  have D0 := Aside0.mk d0
  have D1 := Aside0.mk d1
  obtain ⟨W0, hW0, z0, ⟨p0, p1, p2, p3, p4, p5⟩, pf, hb0⟩ := box3 w (.bool s) (.slice A0 a.length c0) (.bool t) (.slice A1 b.length c1) (.bool false) (.slice none 0 0) 85
  have HW := Aside0.mk hW0
  have HZ := Aside0.mk z0
  have HB := Aside0.mk hb0
  have P1 := Aside0.mk p1
  have P3 := Aside0.mk p3
  have PF := Aside0.mk pf
  have P0 := Aside0.mk p0
  have P2 := Aside0.mk p2
  have P4 := Aside0.mk p4
  have P5 := Aside0.mk p5
  clear hW0 z0 hb0 p0 p1 p2 p3 p4 p5 pf h0 h1 d0 d1
  have hmk := mk_words ((a.length : Int) + (b.length : Int)) (by omega) (by omega)
  go_enter Try.func56, Try.ntmps56
  go_wp2
  clear hmk
  go_loopw [23] (fun v23 W => ∃ (i : Nat) (xs : List Int), v23 = .int .i64 i ∧ i ≤ a.length ∧ Aside0 (Fill W0 (w.heap.size + 1 + 1 + 1) (a.length + b.length) (i + b.length) xs W) ∧ Aside0 (val xs = val (a.take i) * val b)) (fun v23 _ => a.length - (intOf v23).toNat)
  case atStart => exact ⟨0, List.replicate (a.length + b.length) 0, rfl, Nat.zero_le _, ⟨by have h := (Fill.start W0 (a.length + b.length)).more (Nat.zero_le (0 + b.length)); rw [HZ.out] at h; rw [← HW.out]; exact h⟩, ⟨by simp [val_replicate, val_nil]⟩⟩
  case round =>
    obtain ⟨i, xs, rfl, hi, HF, HV⟩ := hrel
    have q1 := kc HF.out.below P1.out
    have q3 := kc HF.out.below P3.out
    by_cases hlt : i < a.length
    · obtain ⟨ad0, e0, x0⟩ := wd_at (wd_below H0.out (HB.out.trans (HF.out.below.mono (by rw [HZ.out]; omega)))) i hlt
      subst e0
      have y0 := dg_get D0.out i
      have HA := Aside0.mk (val_take_succ a i)
      generalize a.getD i 0 = x at *
      obtain ⟨wo, rfl⟩ : ∃ wo : World, wo = wr := ⟨_, rfl⟩
      go_wp2
      clear q1 q3 x0
      go_loopw [8, 31] (fun v8 v31 W => ∃ (k : Nat) (c : Int) (ys : List Int), v8 = .int .u64 c ∧ v31 = .int .i64 k ∧ k ≤ b.length ∧ Aside0 (0 ≤ c ∧ c < 4294967296) ∧ Aside0 (Fill W0 (w.heap.size + 1 + 1 + 1) (a.length + b.length) (i + b.length) ys W) ∧ Aside0 (val ys + c * 4294967296 ^ (i + k) = val xs + 4294967296 ^ i * (x * val (b.take k)))) (fun _ v31 _ => b.length - (intOf v31).toNat)
      case atStart => exact ⟨0, 0, xs, rfl, rfl, Nat.zero_le _, ⟨by omega⟩, HF, ⟨by simp [val_nil]⟩⟩
      case round =>
        obtain ⟨k, c, ys, rfl, rfl, hk, HC, HG, HU⟩ := hrel
        have q1 := kc HG.out.below P1.out
        have q3 := kc HG.out.below P3.out
        by_cases hkl : k < b.length
        · obtain ⟨ad1, e1, x1⟩ := wd_at (wd_below H1.out (HB.out.trans (HG.out.below.mono (by rw [HZ.out]; omega)))) k hkl
          subst e1
          have y1 := dg_get D1.out k
          have HE := Aside0.mk (val_take_succ b k)
          have o0 := HG.out.own.cell (i + k) (by rw [HG.out.len]; omega)
          have f0 := HG.out.own.frozen (i + k)
          have yo := dg_get HG.out.dg (i + k)
          have HS := Aside0.mk (fun v => val_set ys (i + k) (by rw [HG.out.len]; omega) v)
          generalize b.getD k 0 = y at *
          generalize ys.getD (i + k) 0 = o at *
          obtain ⟨m0, m1⟩ := mul_bound y0 y1
          obtain ⟨hc0, hc1⟩ := HC.out
          have ht : 0 ≤ x * y + o + c ∧ x * y + o + c ≤ 18446744073709551615 := by omega
          obtain ⟨t0, t1⟩ := ht
          go_wp2
          go_roundw
          case rel => exact ⟨k + 1, (x * y + o + c) / 4294967296, ys.set (i + k) ((x * y + o + c) % 4294967296), rfl, by go_num, by omega, ⟨by omega⟩, ⟨HG.out.set (i + k) (by omega) _ (by omega)⟩, ⟨by
            have e := mul_step HU.out (x * y + o + c) rfl
            rw [HS.out, HE.out, show i + (k + 1) = i + k + 1 by omega, Int.pow_succ, e, Int.pow_add]
            grind⟩⟩
          case measure => simp [intOf]; omega
        · have HK := Aside0.mk (show k = b.length by omega)
          obtain rfl := HK.out
          obtain ⟨hc0, hc1⟩ := HC.out
          have o0 := HG.out.own.cell (i + b.length) (by rw [HG.out.len]; omega)
          have f0 := HG.out.own.frozen (i + b.length)
          go_wp2
          go_roundw
          case rel => exact ⟨i + 1, ys.set (i + b.length) c, by go_num, by omega, ⟨by rw [show i + 1 + b.length = i + b.length + 1 by omega]; exact HG.out.put c ⟨hc0, hc1⟩⟩, ⟨by
            have e := HU.out
            rw [List.take_length] at e
            rw [HG.out.val (by omega), HA.out, Int.mul_comm, e, HV.out]
            grind⟩⟩
          case measure => simp [intOf]; omega
    · have HI := Aside0.mk (show i = a.length by omega)
      obtain rfl := HI.out
      have k0 := kc HF.out.below P0.out
      have k2 := kc HF.out.below P2.out
      have hv := HV.out
      rw [List.take_length] at hv
      have HU := Aside0.mk hv
      have hl := HF.out.len
      have HL := Aside0.mk hl
      rw [← hl]
      clear hv hl
      go_wp2_with (go_at_call 68; refine (made_any _ (some ⟨w.heap.size + 1 + 1 + 1, 0, none⟩) xs.length (s != t) xs (HF.out.own.wd ?hl1) HF.out.dg (Nat.le_refl _)).mono ?_; (case hl1 => have := HL.out; omega); rintro e w3 ⟨rfl, hb⟩; have HO := Aside0.mk (HF.out.own.below hb); have r4 := kc hb (kc HF.out.below P4.out); have r5 := kc hb (kc HF.out.below P5.out); have g4 := kf hb (kc HF.out.below P4.out) (kf HF.out.below P4.out (PF.out 0)); have g5 := kf hb (kc HF.out.below P5.out) (kf HF.out.below P5.out (PF.out 1)); have HB3 := Aside0.mk (below_step (HB.out.trans (HF.out.below.mono (by rw [HZ.out]; omega))) hb); clear hb)
      refine bodyPost_ret (v := .agg #[.bool ((s != t) && decide (0 < (dig (val xs).toNat).length)), .slice (some ⟨w.heap.size + 1 + 1 + 1, 0, none⟩) (dig (val xs).toNat).length xs.length]) (by simp [results, Try.results56, go_sem, r4, r5]) rfl ⟨_, rfl, ?_, ?_⟩
      · refine ((BI.set (BI.set (made_BI (B := w.heap.size + 1 + 1 + 1) (n := (val a * val b).toNat) HO.out HF.out.dg ?_ ?_ (Nat.le_refl _) rfl) (by simp) _) (by simp) _).mono fun k hk => by omega)
        · rw [HU.out]; have := Int.mul_nonneg (val_nonneg D0.out) (val_nonneg D1.out); omega
        · rw [HL.out]; omega
      · exact below_set (below_set HB3.out (le_two _)) (le_two _)
theorem sg_mul (x y : Int) : sg (decide (x < 0) != decide (y < 0)) (x.natAbs * y.natAbs) = x * y := by
  have e : x * y = sg (decide (x < 0)) x.natAbs * sg (decide (y < 0)) y.natAbs := by rw [sg_of, sg_of]
  rw [e]
  generalize decide (x < 0) = s
  generalize decide (y < 0) = t
  unfold sg
  cases s <;> cases t <;> simp [Int.neg_mul, Int.mul_neg]
theorem mul_any (w : World) (x y : Int) (A0 A1 : Option Addr) (c0 c1 : Nat) (h0 : Wd w A0 (dig x.natAbs)) (h1 : Wd w A1 (dig y.natAbs)) (hm : (dig x.natAbs).length ≤ 35184372088832) (hn : (dig y.natAbs).length ≤ 35184372088832) :
    Calls Try.prog 56 #[arg x A0 c0, arg y A1 c1] w (NewI w (fun k => w.heap.size ≤ k) (x * y)) := by
  have := mul_raw w (decide (x < 0)) (decide (y < 0)) _ _ A0 A1 c0 c1 h0 h1 (dig_dg _) (dig_dg _) hm hn
  rw [dig_val, dig_val, show ((x.natAbs : Int) * (y.natAbs : Int)).toNat = x.natAbs * y.natAbs by rw [← Int.natCast_mul]; exact Int.toNat_natCast _, sg_mul] at this
  exact this
end Go.Proofs.Ytlaidcoickeihaa.Nb
namespace Go.Proofs.Ytlaidcoickeihaa.Nb
open Go.RowKit Go.Proofs.Ytlaidcoickeihaa.Wd.PrintWords Go.Proofs.Ytlaidcoickeihaa.Wd.PrintLast Go.Proofs.Ytlaidcoickeihaa.Wd.PrintMore Go.Proofs.Ytlaidcoickeihaa.Big
set_option synthInstance.maxSize 2000
set_option synthInstance.maxHeartbeats 400000
structure Row (w : World) (g n : Nat) (xs : List Int) (W : World) : Prop where
  own : Own W g xs
  below : Below w.heap.size w W
  base : w.heap.size ≤ g
  len : xs.length = n
  dg : Dg xs
theorem Fill.row {w : World} {g n i : Nat} {xs : List Int} {W : World} (h : Fill w g n i xs W) : Row w g n xs W := ⟨h.own, h.below, h.base, h.len, h.dg⟩
theorem Row.set {w : World} {g n : Nat} {xs : List Int} {W : World} (h : Row w g n xs W) (j : Nat) (v : Int) (hv : 0 ≤ v ∧ v < 4294967296) : Row w g n (xs.set j v) (W.setCell ⟨g, j, none⟩ (.int .u32 v)) :=
  ⟨h.own.set j v, below_set h.below h.base, h.base, by rw [List.length_set]; exact h.len, dg_set h.dg j hv⟩
theorem Row.drewN {w : World} {g n : Nat} {xs : List Int} {W : World} (h : Row w g n xs W) (m : Nat) : Row w g n xs (W.drewN m) := ⟨h.own, pw_below_drewN h.below m, h.base, h.len, h.dg⟩
theorem Row.drew {w : World} {g n : Nat} {xs : List Int} {W : World} (h : Row w g n xs W) : Row w g n xs W.drew := ⟨h.own, below_drew h.below, h.base, h.len, h.dg⟩
theorem or_pack (x r : Int) (hx : 0 ≤ x ∧ x < 4294967296) (hr : 0 ≤ r ∧ r < 4294967296) : bits .or .u64 (r * 4294967296) x = r * 4294967296 + x := by
  obtain ⟨a, rfl⟩ := Int.eq_ofNat_of_zero_le hx.1
  obtain ⟨b, rfl⟩ := Int.eq_ofNat_of_zero_le hr.1
  have ha : a < 4294967296 := by omega
  have hb : b < 4294967296 := by omega
  rw [show ((b : Int) * 4294967296) = ((b * 4294967296 : Nat) : Int) by omega, u64_or_nat _ _ (by omega) (by omega)]
  have := Nat.two_pow_add_eq_or_of_lt (i := 32) (b := a) ha b
  rw [Nat.mul_comm b, show (4294967296 : Nat) = 2 ^ 32 from rfl, ← this]
  omega
set_option maxHeartbeats 4000000 in
set_option maxRecDepth 100000 in
theorem short_any (w : World) (A0 : Option Addr) (c0 : Nat) (a : List Int) (d : Int) (h0 : Wd w A0 a) (d0 : Dg a) (hn : a.length ≤ 70368744177000) (hd : 0 < d) (hd1 : d < 4294967296) :
    Calls Try.prog 84 #[.slice A0 a.length c0, .int .u32 d] w fun e w' => ∃ g xs r, e = .returned (.tuple #[.slice (some ⟨g, 0, none⟩) xs.length xs.length, .int .u32 r]) ∧ 0 ≤ r ∧ r < d ∧ val a = val xs * d + r ∧ Row w g a.length xs w' := by
  have H0 := Aside0.mk h0
  have D0 := Aside0.mk d0
  have hl := wd_len h0
  clear h0 d0
  have hmk := mk_words (a.length : Int) (by omega) (by omega)
  go_enter Try.func84, Try.ntmps84
  go_wp2
  clear hmk
  go_loopw [5, 6] (fun v5 v6 W => ∃ (j : Nat) (r : Int) (xs : List Int), v5 = .int .u32 r ∧ v6 = .int .i64 ((j : Int) - 1) ∧ j ≤ a.length ∧ Aside0 (0 ≤ r ∧ r < d) ∧ Aside0 (Row w w.heap.size a.length xs W) ∧ Aside0 (∀ l, l < j → xs.getD l 0 = 0) ∧ Aside0 (4294967296 ^ j * val (a.drop j) = val xs * d + 4294967296 ^ j * r)) (fun _ v6 _ => (intOf v6 + 1).toNat)
  case atStart => exact ⟨a.length, 0, _, rfl, rfl, Nat.le_refl _, ⟨by omega⟩, ⟨(Fill.start _ _).row⟩, ⟨fun l _ => (Fill.start w _).zero l (Nat.zero_le _)⟩, ⟨by simp [val_replicate, val_nil]⟩⟩
  case round =>
    obtain ⟨j, r, xs, rfl, rfl, hj, HR, HF, HZ, HV⟩ := hrel
    cases j with
    | zero =>
      go_wp2
      go_ret2
      exact ⟨w.heap.size, xs, r, by rw [HF.out.len]; rfl, HR.out.1, HR.out.2, by have := HV.out; simpa using this, HF.out⟩
    | succ m =>
      rw [show ((m + 1 : Nat) : Int) - 1 = (m : Int) by omega]
      obtain ⟨ad0, e0, x0⟩ := wd_at (wd_below H0.out HF.out.below) m (by omega)
      subst e0
      have q1 : m < a.length := by omega
      have y0 := dg_get D0.out m
      have o0 := HF.out.own.cell m (by rw [HF.out.len]; omega)
      have f0 := HF.out.own.frozen m
      have HE := Aside0.mk (val_drop a m)
      generalize a.getD m 0 = x at *
      have hr1 := HR.out.2
      obtain ⟨r0, _⟩ := HR.out
      obtain ⟨u0, u1⟩ := y0
      have hor := or_pack x r ⟨u0, u1⟩ ⟨r0, by omega⟩
      have t0 : 0 ≤ r * 4294967296 + x := by omega
      have t1 : r * 4294967296 + x < 18446744073709551616 := by omega
      have hq0 : 0 ≤ (r * 4294967296 + x) / d := Int.ediv_nonneg t0 (by omega)
      have hq1 : (r * 4294967296 + x) / d < 4294967296 := (Int.ediv_lt_iff_lt_mul hd).2 (by
        have : (r + 1) * 4294967296 ≤ 4294967296 * d := by rw [Int.mul_comm]; exact Int.mul_le_mul_of_nonneg_left (by omega) (by decide)
        omega)
      have hm0 : 0 ≤ (r * 4294967296 + x) % d := Int.emod_nonneg _ (by omega)
      have hm1 : (r * 4294967296 + x) % d < d := Int.emod_lt_of_pos _ hd
      have HX := Aside0.mk (show r * 4294967296 + x = d * ((r * 4294967296 + x) / d) + (r * 4294967296 + x) % d from (Int.mul_ediv_add_emod _ _).symm)
      have hdz : (d == 0) = false := by rw [beq_eq_false_iff_ne]; omega
      have hdn : ¬ d = 0 := by omega
      have hw1 : IntKind.u64.wrap d = d := IntWalk.u64_in _ (by omega)
      have hw2 := IntWalk.u64_quo (r * 4294967296 + x) d (by omega)
      have hw3 := IntWalk.rem_in (r * 4294967296 + x) d t0
      have hw4 : ((r * 4294967296 + x) / d) % 4294967296 = (r * 4294967296 + x) / d := Int.emod_eq_of_lt hq0 hq1
      have hw5 : ((r * 4294967296 + x) % d) % 4294967296 = (r * 4294967296 + x) % d := Int.emod_eq_of_lt hm0 (by omega)
      have hw6 : IntKind.u64.wrap ((r * 4294967296 + x) % d) = (r * 4294967296 + x) % d := IntWalk.u64_in _ (by omega)
      have hw7 : IntKind.u32.wrap ((r * 4294967296 + x) / d) = (r * 4294967296 + x) / d := IntWalk.u32_in _ (by omega)
      have hw8 : IntKind.u32.wrap ((r * 4294967296 + x) % d) = (r * 4294967296 + x) % d := IntWalk.u32_in _ (by omega)
      go_wp2
      go_region_held3 (fun W => Aside0 True) (exact ⟨trivial⟩) (fail)
      have hset := val_set xs m (by rw [HF.out.len]; exact q1) ((r * 4294967296 + x) / d)
      rw [HZ.out m (by omega)] at hset
      have HS := Aside0.mk hset
      clear hset
      have HRow := Aside0.mk (HF.out.set m ((r * 4294967296 + x) / d) ⟨hq0, hq1⟩).drew
      generalize (r * 4294967296 + x) / d = q at *
      generalize (r * 4294967296 + x) % d = r' at *
      clear hw1 hw2 hw3 hw4 hw5 hw6 hw7 hw8 hor
      go_wp2
      go_roundw
      case rel => exact ⟨m, r', xs.set m q, rfl, by go_num, by omega, ⟨hm0, hm1⟩, HRow, ⟨fun l hl => by rw [List.getD_eq_getElem?_getD, List.getElem?_set_ne (by omega), ← List.getD_eq_getElem?_getD]; exact HZ.out l (by omega)⟩, ⟨by
        rw [HS.out, HE.out, Int.mul_add, ← Int.mul_assoc, ← Int.pow_succ, HV.out, Int.pow_succ]
        have e := HX.out
        have : 4294967296 ^ m * (r * 4294967296 + x) = 4294967296 ^ m * (d * q + r') := by rw [e]
        grind⟩⟩
      case measure => simp [intOf]
end Go.Proofs.Ytlaidcoickeihaa.Nb
namespace Go.Proofs.Ytlaidcoickeihaa.Nb
open Go.RowKit Go.Proofs.Ytlaidcoickeihaa.Wd.PrintWords Go.Proofs.Ytlaidcoickeihaa.Wd.PrintLast Go.Proofs.Ytlaidcoickeihaa.Wd.PrintMore Go.Proofs.Ytlaidcoickeihaa.Big
set_option synthInstance.maxSize 2000
set_option synthInstance.maxHeartbeats 400000
abbrev len8 : ByteArray := ⟨#[0, 1, 2, 2, 3, 3, 3, 3, 4, 4, 4, 4, 4, 4, 4, 4, 5, 5, 5, 5, 5, 5, 5, 5, 5, 5, 5, 5, 5, 5, 5, 5, 6, 6, 6, 6, 6, 6, 6, 6, 6, 6, 6, 6, 6, 6, 6, 6, 6, 6, 6, 6, 6, 6, 6, 6, 6, 6, 6, 6, 6, 6, 6, 6, 7, 7, 7, 7, 7, 7, 7, 7, 7, 7, 7, 7, 7, 7, 7, 7, 7, 7, 7, 7, 7, 7, 7, 7, 7, 7, 7, 7, 7, 7, 7, 7, 7, 7, 7, 7, 7, 7, 7, 7, 7, 7, 7, 7, 7, 7, 7, 7, 7, 7, 7, 7, 7, 7, 7, 7, 7, 7, 7, 7, 7, 7, 7, 7, 8, 8, 8, 8, 8, 8, 8, 8, 8, 8, 8, 8, 8, 8, 8, 8, 8, 8, 8, 8, 8, 8, 8, 8, 8, 8, 8, 8, 8, 8, 8, 8, 8, 8, 8, 8, 8, 8, 8, 8, 8, 8, 8, 8, 8, 8, 8, 8, 8, 8, 8, 8, 8, 8, 8, 8, 8, 8, 8, 8, 8, 8, 8, 8, 8, 8, 8, 8, 8, 8, 8, 8, 8, 8, 8, 8, 8, 8, 8, 8, 8, 8, 8, 8, 8, 8, 8, 8, 8, 8, 8, 8, 8, 8, 8, 8, 8, 8, 8, 8, 8, 8, 8, 8, 8, 8, 8, 8, 8, 8, 8, 8, 8, 8, 8, 8, 8, 8, 8, 8, 8, 8, 8, 8, 8, 8, 8, 8]⟩
theorem len8_is : ∀ i : Fin 256, i.val ≠ 0 → 1 ≤ bt len8 (i.val : Int) ∧ bt len8 (i.val : Int) ≤ 8 ∧ 2 ^ ((bt len8 (i.val : Int)).toNat - 1) ≤ i.val ∧ i.val < 2 ^ (bt len8 (i.val : Int)).toNat := by decide +kernel
set_option maxHeartbeats 4000000 in
set_option maxRecDepth 100000 in
theorem len32_a (w : World) (x : Int) (h0 : 16777216 ≤ x) (h1 : x < 4294967296) :
    Calls Try.prog 103 #[.int .u32 x] w fun e w' => e = .returned (.int .i64 (24 + bt len8 (x / 16777216))) ∧ w = w' := by
  have k1 : decide (65536 ≤ x) = true := decide_eq_true (by omega)
  have k2 : decide (256 ≤ x / 65536) = true := decide_eq_true (by omega)
  have he : x / 65536 / 256 = x / 16777216 := by omega
  have hx := bt_at len8 (x / 16777216)
  have hr := bt_range len8 (x / 16777216)
  have hi0 : 0 ≤ x / 16777216 := by omega
  have hi1 : x / 16777216 < 256 := by omega
  go_enter Try.func103, Try.ntmps103
  go_wp2
  go_ret
  exact ⟨rfl, rfl⟩
set_option maxHeartbeats 4000000 in
set_option maxRecDepth 100000 in
theorem len32_b (w : World) (x : Int) (h0 : 65536 ≤ x) (h1 : x < 16777216) :
    Calls Try.prog 103 #[.int .u32 x] w fun e w' => e = .returned (.int .i64 (16 + bt len8 (x / 65536))) ∧ w = w' := by
  have k1 : decide (65536 ≤ x) = true := decide_eq_true (by omega)
  have k2 : decide (256 ≤ x / 65536) = false := decide_eq_false (by omega)
  have hx := bt_at len8 (x / 65536)
  have hr := bt_range len8 (x / 65536)
  have hi0 : 0 ≤ x / 65536 := by omega
  have hi1 : x / 65536 < 256 := by omega
  go_enter Try.func103, Try.ntmps103
  go_wp2
  go_ret
  exact ⟨rfl, rfl⟩
set_option maxHeartbeats 4000000 in
set_option maxRecDepth 100000 in
theorem len32_c (w : World) (x : Int) (h0 : 256 ≤ x) (h1 : x < 65536) :
    Calls Try.prog 103 #[.int .u32 x] w fun e w' => e = .returned (.int .i64 (8 + bt len8 (x / 256))) ∧ w = w' := by
  have k1 : decide (65536 ≤ x) = false := decide_eq_false (by omega)
  have k2 : decide (256 ≤ x) = true := decide_eq_true (by omega)
  have hx := bt_at len8 (x / 256)
  have hr := bt_range len8 (x / 256)
  have hi0 : 0 ≤ x / 256 := by omega
  have hi1 : x / 256 < 256 := by omega
  go_enter Try.func103, Try.ntmps103
  go_wp2
  go_ret
  exact ⟨rfl, rfl⟩
set_option maxHeartbeats 4000000 in
set_option maxRecDepth 100000 in
theorem len32_d (w : World) (x : Int) (h0 : 1 ≤ x) (h1 : x < 256) :
    Calls Try.prog 103 #[.int .u32 x] w fun e w' => e = .returned (.int .i64 (bt len8 (x))) ∧ w = w' := by
  have k1 : decide (65536 ≤ x) = false := decide_eq_false (by omega)
  have k2 : decide (256 ≤ x) = false := decide_eq_false (by omega)
  have hx := bt_at len8 (x)
  have hr := bt_range len8 (x)
  have hi0 : 0 ≤ x := by omega
  have hi1 : x < 256 := by omega
  go_enter Try.func103, Try.ntmps103
  go_wp2
  go_ret
  exact ⟨rfl, rfl⟩
theorem lz_of {x : Int} {t b : Nat} (hb : 1 ≤ b) (ht : t + b ≤ 32) (h0 : 2 ^ (b - 1) * 2 ^ t ≤ x) (h1 : x < 2 ^ b * 2 ^ t) : 2147483648 ≤ x * 2 ^ (32 - (t + b)) ∧ x * 2 ^ (32 - (t + b)) < 4294967296 := by
  have e1 : (2 : Int) ^ (b - 1) * 2 ^ t * 2 ^ (32 - (t + b)) = 2147483648 := by
    rw [← Int.pow_add, ← Int.pow_add, show b - 1 + t + (32 - (t + b)) = 31 by omega]; decide
  have e2 : (2 : Int) ^ b * 2 ^ t * 2 ^ (32 - (t + b)) = 4294967296 := by
    rw [← Int.pow_add, ← Int.pow_add, show b + t + (32 - (t + b)) = 32 by omega]; decide
  have hp : (0 : Int) < 2 ^ (32 - (t + b)) := Int.pow_pos (by decide)
  refine ⟨?_, ?_⟩
  · rw [← e1]; exact Int.mul_le_mul_of_nonneg_right h0 (Int.le_of_lt hp)
  · rw [← e2]; exact Int.mul_lt_mul_of_pos_right h1 hp
def LZ (x : Int) (s : Nat) : Prop := s ≤ 31 ∧ 2147483648 ≤ x * 2 ^ s ∧ x * 2 ^ s < 4294967296
theorem lz_tab {x i : Int} {t : Nat} (hi0 : 1 ≤ i) (hi1 : i < 256) (ht : t ≤ 24) (h0 : i * 2 ^ t ≤ x) (h1 : x < (i + 1) * 2 ^ t) : LZ x (32 - (t + (bt len8 i).toNat)) ∧ 1 ≤ bt len8 i ∧ bt len8 i ≤ 8 := by
  obtain ⟨n, rfl⟩ := Int.eq_ofNat_of_zero_le (show 0 ≤ i by omega)
  obtain ⟨b1, b2, b3, b4⟩ := len8_is ⟨n, by omega⟩ (by show n ≠ 0; omega)
  have b1' : 1 ≤ bt len8 (n : Int) := b1
  have b2' : bt len8 (n : Int) ≤ 8 := b2
  have b3' : 2 ^ ((bt len8 (n : Int)).toNat - 1) ≤ n := b3
  have b4' : n < 2 ^ (bt len8 (n : Int)).toNat := b4
  clear b1 b2 b3 b4
  generalize bt len8 (n : Int) = L at *
  have hp : (0 : Int) < 2 ^ t := Int.pow_pos (by decide)
  have c3 : ((2 : Int) ^ (L.toNat - 1)) ≤ n := by exact_mod_cast b3'
  have c4 : ((n : Int) + 1) ≤ 2 ^ L.toNat := by exact_mod_cast b4'
  have q := lz_of (x := x) (t := t) (b := L.toNat) (by omega) (by omega) (Int.le_trans (Int.mul_le_mul_of_nonneg_right c3 (Int.le_of_lt hp)) h0) (Int.lt_of_lt_of_le h1 (Int.mul_le_mul_of_nonneg_right c4 (Int.le_of_lt hp)))
  exact ⟨⟨by omega, q⟩, b1', b2'⟩
theorem len32_any (w : World) (x : Int) (h0 : 1 ≤ x) (h1 : x < 4294967296) :
    Calls Try.prog 103 #[.int .u32 x] w fun e w' => ∃ L : Int, e = .returned (.int .i64 L) ∧ 1 ≤ L ∧ L ≤ 32 ∧ LZ x (32 - L).toNat ∧ w = w' := by
  by_cases a : 16777216 ≤ x
  · obtain ⟨q, l1, l2⟩ := lz_tab (x := x) (i := x / 16777216) (t := 24) (by omega) (by omega) (by omega) (by omega) (by omega)
    exact (len32_a w x a h1).mono fun e w' ⟨he, hw⟩ => ⟨_, he, by omega, by omega, by rw [show (32 - (24 + bt len8 (x / 16777216))).toNat = 32 - (24 + (bt len8 (x / 16777216)).toNat) by omega]; exact q, hw⟩
  by_cases b : 65536 ≤ x
  · obtain ⟨q, l1, l2⟩ := lz_tab (x := x) (i := x / 65536) (t := 16) (by omega) (by omega) (by omega) (by omega) (by omega)
    exact (len32_b w x b (by omega)).mono fun e w' ⟨he, hw⟩ => ⟨_, he, by omega, by omega, by rw [show (32 - (16 + bt len8 (x / 65536))).toNat = 32 - (16 + (bt len8 (x / 65536)).toNat) by omega]; exact q, hw⟩
  by_cases c : 256 ≤ x
  · obtain ⟨q, l1, l2⟩ := lz_tab (x := x) (i := x / 256) (t := 8) (by omega) (by omega) (by omega) (by omega) (by omega)
    exact (len32_c w x c (by omega)).mono fun e w' ⟨he, hw⟩ => ⟨_, he, by omega, by omega, by rw [show (32 - (8 + bt len8 (x / 256))).toNat = 32 - (8 + (bt len8 (x / 256)).toNat) by omega]; exact q, hw⟩
  · obtain ⟨q, l1, l2⟩ := lz_tab (x := x) (i := x) (t := 0) (by omega) (by omega) (by omega) (by omega) (by omega)
    exact (len32_d w x h0 (by omega)).mono fun e w' ⟨he, hw⟩ => ⟨_, he, by omega, by omega, by rw [show (32 - bt len8 x).toNat = 32 - (0 + (bt len8 x).toNat) by omega]; exact q, hw⟩
set_option maxHeartbeats 4000000 in
set_option maxRecDepth 100000 in
theorem lz32_any (w : World) (x : Int) (h0 : 1 ≤ x) (h1 : x < 4294967296) :
    Calls Try.prog 95 #[.int .u32 x] w fun e w' => ∃ s : Nat, e = .returned (.int .i64 (s : Int)) ∧ LZ x s ∧ w = w' := by
  go_enter Try.func95, Try.ntmps95
  go_wp2_with (go_at_call 103; refine (len32_any _ x h0 h1).mono ?_; rintro e w' ⟨L, rfl, l1, l2, hq, rfl⟩; have HQ := Aside0.mk hq; clear hq)
  go_ret
  exact ⟨(32 - L).toNat, by rw [Int.toNat_of_nonneg (by omega)]; rfl, HQ.out, rfl⟩
end Go.Proofs.Ytlaidcoickeihaa.Nb
namespace Go.Proofs.Ytlaidcoickeihaa.Nb
open Go.RowKit Go.Proofs.Ytlaidcoickeihaa.Wd.PrintWords Go.Proofs.Ytlaidcoickeihaa.Wd.PrintLast Go.Proofs.Ytlaidcoickeihaa.Wd.PrintMore Go.Proofs.Ytlaidcoickeihaa.Big
set_option synthInstance.maxSize 2000
set_option synthInstance.maxHeartbeats 400000
theorem pow_split (s : Nat) (hs : s ≤ 32) : (4294967296 : Nat) = 2 ^ (32 - s) * 2 ^ s := by
  rw [← Nat.pow_add, show 32 - s + s = 32 by omega]
theorem shift_or (x o : Int) (s : Nat) (hs : s ≤ 32) (hx : 0 ≤ x ∧ x < 4294967296) (ho : 0 ≤ o) (ho1 : o < 2 ^ s) :
    IntKind.u64.wrap (x * 2 ^ s) = x * 2 ^ s ∧ 0 ≤ x * 2 ^ s ∧ x * 2 ^ s / 4294967296 < 2 ^ s ∧ (2 : Int) ^ s ≤ 4294967296 ∧ bits .or .u32 o (x * 2 ^ s % 4294967296) = o + x * 2 ^ s % 4294967296 ∧ o + x * 2 ^ s % 4294967296 < 4294967296 := by
  obtain ⟨n, rfl⟩ := Int.eq_ofNat_of_zero_le hx.1
  obtain ⟨m, rfl⟩ := Int.eq_ofNat_of_zero_le ho
  have hp : 0 < 2 ^ s := Nat.two_pow_pos s
  have hB := pow_split s hs
  have hp31 : 2 ^ s ≤ 2 ^ 32 := Nat.pow_le_pow_right (by decide) hs
  have hm : m < 2 ^ s := by exact_mod_cast ho1
  have hn : n < 4294967296 := by omega
  have e : ((n : Int) * 2 ^ s) = ((n * 2 ^ s : Nat) : Int) := by rw [Int.natCast_mul, Int.natCast_pow]; rfl
  have e2 : ((2 : Int) ^ s) = ((2 ^ s : Nat) : Int) := by rw [Int.natCast_pow]; rfl
  have hT : n * 2 ^ s < 4294967296 * 2 ^ s := Nat.mul_lt_mul_of_pos_right hn hp
  have hT2 : n * 2 ^ s + 2 ^ s ≤ 4294967296 * 2 ^ s := by rw [← Nat.succ_mul]; exact Nat.mul_le_mul_right _ hn
  have hmod : n * 2 ^ s % 4294967296 = (n % 2 ^ (32 - s)) * 2 ^ s := by
    conv => lhs; rw [hB]
    exact Nat.mul_mod_mul_right _ _ _
  have hq : n % 2 ^ (32 - s) < 2 ^ (32 - s) := Nat.mod_lt _ (Nat.two_pow_pos _)
  have hq2 : (n % 2 ^ (32 - s) + 1) * 2 ^ s ≤ 4294967296 := by rw [hB]; exact Nat.mul_le_mul_right _ hq
  have hq3 : (n % 2 ^ (32 - s)) * 2 ^ s + 2 ^ s ≤ 4294967296 := by rw [Nat.succ_mul] at hq2; exact hq2
  have hdiv : n * 2 ^ s / 4294967296 < 2 ^ s := (Nat.div_lt_iff_lt_mul (by decide)).2 (by rw [Nat.mul_comm (2 ^ s)]; exact hT)
  rw [e, e2]
  have hor : m ||| (n * 2 ^ s % 4294967296) = m + n * 2 ^ s % 4294967296 := by
    rw [hmod, Nat.or_comm, Nat.mul_comm, ← Nat.two_pow_add_eq_or_of_lt hm, Nat.add_comm]
  have c1 : ((n * 2 ^ s : Nat) : Int) % 4294967296 = ((n * 2 ^ s % 4294967296 : Nat) : Int) := by omega
  generalize n * 2 ^ s = T at *
  generalize 2 ^ s = p at *
  refine ⟨IntWalk.u64_in _ (by omega), by omega, by omega, by omega, ?_, by omega⟩
  rw [c1, u32_or_nat _ _ (by omega) (by omega), hor]
  omega
set_option maxHeartbeats 4000000 in
set_option maxRecDepth 100000 in
theorem shifted_any (w : World) (A0 : Option Addr) (c0 : Nat) (a : List Int) (s : Nat) (h0 : Wd w A0 a) (d0 : Dg a) (hn : a.length ≤ 70368744177000) (hs : s ≤ 31) :
    Calls Try.prog 96 #[.slice A0 a.length c0, .int .u64 (s : Int)] w (NewW w fun xs => xs.length = a.length + 1 ∧ val xs = 2 ^ s * val a) := by
  have H0 := Aside0.mk h0
  have D0 := Aside0.mk d0
  clear h0 d0
  have hmk := mk_words ((a.length : Int) + 1) (by omega) (by omega)
  go_enter Try.func96, Try.ntmps96
  go_wp2
  clear hmk
  go_loopw [15] (fun v15 W => ∃ (i : Nat) (xs : List Int), v15 = .int .i64 i ∧ i ≤ a.length ∧ Aside0 (Fill w w.heap.size (a.length + 1) (i + 1) xs W) ∧ Aside0 (xs.getD i 0 < 2 ^ s) ∧ Aside0 (val xs = 2 ^ s * val (a.take i))) (fun v15 _ => a.length - (intOf v15).toNat)
  case atStart => exact ⟨0, _, rfl, Nat.zero_le _, ⟨(Fill.start _ _).more (by omega)⟩, ⟨by rw [(Fill.start w (a.length + 1)).zero 0 (Nat.le_refl _)]; exact Int.pow_pos (by decide)⟩, ⟨by simp [val_replicate, val_nil]⟩⟩
  case round =>
    obtain ⟨i, xs, rfl, hi, HF, HO, HV⟩ := hrel
    by_cases hlt : i < a.length
    · obtain ⟨ad0, e0, x0⟩ := wd_at (wd_below H0.out HF.out.below) i hlt
      subst e0
      have y0 := dg_get D0.out i
      have o0 := HF.out.own.cell i (by rw [HF.out.len]; omega)
      have o1 := HF.out.own.cell (i + 1) (by rw [HF.out.len]; omega)
      have f0 := HF.out.own.frozen i
      have f1 := HF.out.own.frozen (i + 1)
      have yo := dg_get HF.out.dg i
      have HE := Aside0.mk (val_take_succ a i)
      have ho := HO.out
      have HS := Aside0.mk (fun v => val_set xs i (by rw [HF.out.len]; omega) v)
      have hz1 : xs.getD (i + 1) 0 = 0 := HF.out.zero _ (Nat.le_refl _)
      rw [hz1] at o1
      have HS1 := Aside0.mk (fun v u => val_set (xs.set i v) (i + 1) (by rw [List.length_set, HF.out.len]; omega) u)
      have hz2 : ∀ v, (xs.set i v).getD (i + 1) 0 = 0 := fun v => by rw [List.getD_eq_getElem?_getD, List.getElem?_set_ne (by omega), ← List.getD_eq_getElem?_getD]; exact hz1
      have HZ2 := Aside0.mk hz2
      clear hz2 hz1
      generalize a.getD i 0 = x at *
      generalize xs.getD i 0 = o at *
      obtain ⟨t1, t2, t3, t4, t5, t6⟩ := shift_or x o s (by omega) y0 yo.1 ho
      have t7 : 0 ≤ x * 2 ^ s / 4294967296 := by omega
      have t8 : x * 2 ^ s / 4294967296 % 4294967296 = x * 2 ^ s / 4294967296 := Int.emod_eq_of_lt t7 (by omega)
      have t9 : 0 ≤ o + x * 2 ^ s % 4294967296 := by have := yo.1; omega
      have HX := Aside0.mk (Int.mul_ediv_add_emod (x * 2 ^ s) 4294967296)
      go_wp2
      go_roundw
      case rel => exact ⟨i + 1, (xs.set i (o + x * 2 ^ s % 4294967296)).set (i + 1) (x * 2 ^ s / 4294967296), by go_num, by omega, ⟨(HF.out.set i (by omega) _ ⟨t9, t6⟩).put _ ⟨t7, by omega⟩⟩, ⟨by
        rw [List.getD_eq_getElem?_getD, List.getElem?_set_self (by rw [List.length_set, HF.out.len]; omega)]; exact t3⟩, ⟨by
        have e := HX.out
        rw [HS1.out, HZ2.out, HS.out, HV.out, HE.out, Int.pow_succ]
        generalize x * 2 ^ s / 4294967296 = q at *
        generalize x * 2 ^ s % 4294967296 = r at *
        have : 4294967296 ^ i * (x * 2 ^ s) = 4294967296 ^ i * (4294967296 * q + r) := by rw [e]
        grind⟩⟩
      case measure => simp [intOf]; omega
    · have HI := Aside0.mk (show i = a.length by omega)
      go_wp2
      go_ret
      have hv := HV.out
      rw [HI.out, List.take_length] at hv
      exact ⟨_, xs, by rw [HF.out.len]; rfl, HF.out.base, HF.out.own, HF.out.dg, ⟨HF.out.len, hv⟩, HF.out.below⟩
end Go.Proofs.Ytlaidcoickeihaa.Nb
namespace Go.Proofs.Ytlaidcoickeihaa.Nb
open Go.RowKit Go.Proofs.Ytlaidcoickeihaa.Wd.PrintWords Go.Proofs.Ytlaidcoickeihaa.Wd.PrintLast Go.Proofs.Ytlaidcoickeihaa.Wd.PrintMore Go.Proofs.Ytlaidcoickeihaa.Big
set_option synthInstance.maxSize 2000
set_option synthInstance.maxHeartbeats 400000
structure Win (w : World) (g h : Nat) (xs ys : List Int) (W : World) : Prop where
  own : Own W g ys
  len : ys.length = xs.length
  dg : Dg ys
  out : ∀ l, h ≤ l → ys.getD l 0 = xs.getD l 0
  size : W.heap.size = w.heap.size
  bel : ∀ w0 : World, Below w0.heap.size w0 w → w0.heap.size ≤ g → Below w0.heap.size w0 W
  oth : ∀ i, i ≠ g → W.heap[i]? = w.heap[i]?
  rd : ∀ A l, Wd w A l → (∀ ad, A = some ad → 0 < l.length → ad.block ≠ g) → Wd W A l
theorem Win.start {w : World} {g h : Nat} {xs : List Int} (ho : Own w g xs) (hd : Dg xs) : Win w g h xs xs w := ⟨ho, rfl, hd, fun _ _ => rfl, rfl, fun _ h _ => h, fun _ _ => rfl, fun _ _ h _ => h⟩
theorem Win.set {w : World} {g h : Nat} {xs ys : List Int} {W : World} (H : Win w g h xs ys W) (j : Nat) (hj : j < h) (v : Int) (hv : 0 ≤ v ∧ v < 4294967296) : Win w g h xs (ys.set j v) (W.setCell ⟨g, j, none⟩ (.int .u32 v)) :=
  ⟨H.own.set j v, by rw [List.length_set]; exact H.len, dg_set H.dg j hv, fun l hl => by rw [List.getD_eq_getElem?_getD, List.getElem?_set_ne (by omega), ← List.getD_eq_getElem?_getD]; exact H.out l hl,
   by rw [← H.size]; simp [World.setCell], fun w0 hb hg => below_set (H.bel w0 hb hg) hg, fun i hi => (Below.heap_setCell _ _ _ _ hi).trans (H.oth i hi), fun A l hA hne => wd_set (H.rd A l hA hne) hne _⟩
theorem Win.drewN {w : World} {g h : Nat} {xs ys : List Int} {W : World} (H : Win w g h xs ys W) (n : Nat) : Win w g h xs ys (W.drewN n) :=
  ⟨H.own, H.len, H.dg, H.out, H.size, fun w0 hb hg => pw_below_drewN (H.bel w0 hb hg) n, H.oth, fun A l hA hne => H.rd A l hA hne⟩
theorem Win.drew {w : World} {g h : Nat} {xs ys : List Int} {W : World} (H : Win w g h xs ys W) : Win w g h xs ys W.drew :=
  ⟨H.own, H.len, H.dg, H.out, H.size, fun w0 hb hg => below_drew (H.bel w0 hb hg), H.oth, fun A l hA hne => H.rd A l hA hne⟩
theorem take_step {vy vx po p vb q c b x v t : Int} (h : vy = vx + po * (p * (c + b) - q * vb)) (ht : t = q * v + c) :
    vy + po * p * ((x - t % 4294967296 - b) % 4294967296 - x) = vx + po * (p * 4294967296 * (t / 4294967296 + borrowI x (t % 4294967296) b) - q * (vb + p * v)) ∨ ¬ (0 ≤ x ∧ x < 4294967296 ∧ 0 ≤ b ∧ b ≤ 1) := by
  by_cases hx : 0 ≤ x ∧ x < 4294967296 ∧ 0 ≤ b ∧ b ≤ 1
  · left
    have e := Int.mul_ediv_add_emod t 4294967296
    have hr : 0 ≤ t % 4294967296 ∧ t % 4294967296 < 4294967296 := by omega
    generalize t % 4294967296 = r at *
    generalize t / 4294967296 = d at *
    have e2 : (x - r - b) % 4294967296 = x - r - b + borrowI x r b * 4294967296 := by unfold borrowI; split <;> omega
    rw [e2]
    generalize borrowI x r b = y
    subst h
    have : po * p * (q * v + c) = po * p * (4294967296 * d + r) := by rw [← ht, e]
    grind
  · exact .inr hx
set_option maxHeartbeats 4000000 in
set_option maxRecDepth 100000 in
theorem takeAway_any (w : World) (g o : Nat) (xs : List Int) (cap : Nat) (A1 : Option Addr) (c1 : Nat) (b : List Int) (q : Int) (hg : Own w g xs) (dx : Dg xs) (ho : o + b.length + 1 ≤ xs.length) (hl : xs.length ≤ 70368744177664) (h1 : Wd w A1 b) (d1 : Dg b) (hne : ∀ ad, A1 = some ad → 0 < b.length → ad.block ≠ g) (q0 : 0 ≤ q) (q1 : q < 4294967296) :
    Calls Try.prog 97 #[.slice (some ⟨g, o, none⟩) (b.length + 1) cap, .slice A1 b.length c1, .int .u64 q] w fun e w' => ∃ ys bo, e = .returned (.bool (bo != 0)) ∧ 0 ≤ bo ∧ bo ≤ 1 ∧ val ys = val xs + 4294967296 ^ o * (4294967296 ^ b.length * 4294967296 * bo - q * val b) ∧ Win w g (o + b.length + 1) xs ys w' := by
  have H1 := Aside0.mk h1
  have D1 := Aside0.mk d1
  have HS := Aside0.mk (Win.start (h := o + b.length + 1) hg dx)
  have HN := Aside0.mk hne
  clear h1 d1 hg dx hne
  go_enter Try.func97, Try.ntmps97
  go_wp2
  go_loopw [7, 8, 13] (fun v7 v8 v13 W => ∃ (i : Nat) (c bo : Int) (ys : List Int), v7 = .int .u64 c ∧ v8 = .int .u32 bo ∧ v13 = .int .i64 i ∧ i ≤ b.length ∧ Aside0 (0 ≤ c ∧ c < 4294967296) ∧ Aside0 (0 ≤ bo ∧ bo ≤ 1) ∧ Aside0 (Win w g (o + b.length + 1) xs ys W) ∧ Aside0 (∀ l, o + i ≤ l → ys.getD l 0 = xs.getD l 0) ∧ Aside0 (val ys = val xs + 4294967296 ^ o * (4294967296 ^ i * (c + bo) - q * val (b.take i)))) (fun _ _ v13 _ => b.length - (intOf v13).toNat)
  case atStart => exact ⟨0, 0, 0, xs, rfl, rfl, rfl, Nat.zero_le _, ⟨by omega⟩, ⟨by omega⟩, HS, ⟨fun _ _ => rfl⟩, ⟨by simp [val_nil]⟩⟩
  case round =>
    obtain ⟨i, c, bo, ys, rfl, rfl, rfl, hi, HC, HB, HF, HO, HV⟩ := hrel
    obtain ⟨c0, c2⟩ := HC.out
    by_cases hlt : i < b.length
    · obtain ⟨ad1, e1, x1⟩ := wd_at (HF.out.rd _ _ H1.out HN.out) i hlt
      subst e1
      have y1 := dg_get D1.out i
      have yo := dg_get HF.out.dg (o + i)
      have o0 := HF.out.own.cell (o + i) (by rw [HF.out.len]; omega)
      have f0 := HF.out.own.frozen (o + i)
      have HE := Aside0.mk (val_take_succ b i)
      have HT := Aside0.mk (fun v => val_set ys (o + i) (by rw [HF.out.len]; omega) v)
      generalize b.getD i 0 = v at *
      generalize ys.getD (o + i) 0 = x at *
      obtain ⟨m0, m1⟩ := mul_bound ⟨q0, q1⟩ y1
      have t0 : 0 ≤ q * v + c := by omega
      have t1 : q * v + c < 18446744073709551616 := by omega
      have ht := take_step (x := x) (v := v) HV.out (t := q * v + c) rfl
      have HX := Aside0.mk (ht.resolve_right (fun h => h ⟨yo.1, yo.2, HB.out.1, HB.out.2⟩))
      clear ht
      go_wp2_with (go_at_call 87; refine (sub32_any _ x ((q * v + c) % 4294967296) bo yo (by omega) HB.out).mono ?_; rintro e w' ⟨rfl, ⟨nd, rfl⟩⟩)
      go_roundw
      case rel => exact ⟨i + 1, (q * v + c) / 4294967296, borrowI x ((q * v + c) % 4294967296) bo, ys.set (o + i) ((x - (q * v + c) % 4294967296 - bo) % 4294967296), rfl, rfl, by go_num, by omega, ⟨by omega⟩, ⟨borrowI_01 _ _ _⟩, ⟨(HF.out.drewN nd).set (o + i) (by omega) _ (by omega)⟩, ⟨fun l hl => by rw [List.getD_eq_getElem?_getD, List.getElem?_set_ne (by omega), ← List.getD_eq_getElem?_getD]; exact HO.out l (by omega)⟩, ⟨by rw [HT.out, HE.out, Int.pow_add, Int.pow_succ]; exact HX.out⟩⟩
      case measure => simp [intOf]; omega
    · have HI := Aside0.mk (show i = b.length by omega)
      obtain rfl := HI.out
      have yo := dg_get HF.out.dg (o + b.length)
      have o0 := HF.out.own.cell (o + b.length) (by rw [HF.out.len]; omega)
      have f0 := HF.out.own.frozen (o + b.length)
      have HT := Aside0.mk (fun v => val_set ys (o + b.length) (by rw [HF.out.len]; omega) v)
      generalize ys.getD (o + b.length) 0 = x at *
      go_wp2_with (go_at_call 87; refine (sub32_any _ x c bo yo ⟨c0, c2⟩ HB.out).mono ?_; rintro e w' ⟨rfl, ⟨nd, rfl⟩⟩)
      go_ret
      refine ⟨ys.set (o + b.length) ((x - c - bo) % 4294967296), borrowI x c bo, rfl, (borrowI_01 _ _ _).1, (borrowI_01 _ _ _).2, ?_, (HF.out.drewN nd).set (o + b.length) (by omega) _ (by omega)⟩
      rw [HT.out, HV.out, List.take_length, Int.pow_add]
      have e2 : (x - c - bo) % 4294967296 = x - c - bo + borrowI x c bo * 4294967296 := by have := HB.out; unfold borrowI; split <;> omega
      rw [e2]
      grind
def PutPost (w : World) (g o : Nat) (xs b : List Int) (e : Ending) (w' : World) : Prop := ∃ ys d, e = .returned (.tuple #[]) ∧ 0 ≤ d ∧ d ≤ 1 ∧ val ys = val xs + 4294967296 ^ o * (val b - 4294967296 ^ b.length * 4294967296 * d) ∧ Win w g (o + b.length + 1) xs ys w'
set_option maxHeartbeats 4000000 in
set_option maxRecDepth 100000 in
theorem putBack_any (w : World) (g o : Nat) (xs : List Int) (cap : Nat) (A1 : Option Addr) (c1 : Nat) (b : List Int) (hg : Own w g xs) (dx : Dg xs) (ho : o + b.length + 1 ≤ xs.length) (hl : xs.length ≤ 70368744177664) (h1 : Wd w A1 b) (d1 : Dg b) (hne : ∀ ad, A1 = some ad → 0 < b.length → ad.block ≠ g) :
    Calls Try.prog 98 #[.slice (some ⟨g, o, none⟩) (b.length + 1) cap, .slice A1 b.length c1] w (PutPost w g o xs b) := by
  have H1 := Aside0.mk h1
  have D1 := Aside0.mk d1
  have HS := Aside0.mk (Win.start (h := o + b.length + 1) hg dx)
  have HN := Aside0.mk hne
  clear h1 d1 hg dx hne
  go_enter Try.func98, Try.ntmps98
  go_wp2
  go_loopw [4, 8] (fun v4 v8 W => ∃ (i : Nat) (c : Int) (ys : List Int), v4 = .int .u32 c ∧ v8 = .int .i64 i ∧ i ≤ b.length ∧ Aside0 (0 ≤ c ∧ c ≤ 1) ∧ Aside0 (Win w g (o + b.length + 1) xs ys W) ∧ Aside0 (∀ l, o + i ≤ l → ys.getD l 0 = xs.getD l 0) ∧ Aside0 (val ys = val xs + 4294967296 ^ o * (val (b.take i) - 4294967296 ^ i * c))) (fun _ v8 _ => b.length - (intOf v8).toNat)
  case atStart => exact ⟨0, 0, xs, rfl, rfl, Nat.zero_le _, ⟨by omega⟩, HS, ⟨fun _ _ => rfl⟩, ⟨by simp [val_nil]⟩⟩
  case round =>
    obtain ⟨i, c, ys, rfl, rfl, hi, HC, HF, HO, HV⟩ := hrel
    by_cases hlt : i < b.length
    · obtain ⟨ad1, e1, x1⟩ := wd_at (HF.out.rd _ _ H1.out HN.out) i hlt
      subst e1
      have y1 := dg_get D1.out i
      have yo := dg_get HF.out.dg (o + i)
      have o0 := HF.out.own.cell (o + i) (by rw [HF.out.len]; omega)
      have f0 := HF.out.own.frozen (o + i)
      have HE := Aside0.mk (val_take_succ b i)
      have HT := Aside0.mk (fun v => val_set ys (o + i) (by rw [HF.out.len]; omega) v)
      generalize b.getD i 0 = v at *
      generalize ys.getD (o + i) 0 = x at *
      have hz0 : (0 : Int) ≤ (i : Int) := by omega
      have hz1 : (i : Int) < (b.length : Int) + 1 := by omega
      have hz2 : (i : Int) < (b.length : Int) := by omega
      go_wp2
      go_region_law (first | (go_simp; go_at_call 86; refine (add32_any _ x v c yo y1 HC.out).mono ?_; rintro e w' ⟨rfl, ⟨nd, rfl⟩⟩))
      all_goals
        go_wp2
        go_roundw
        case rel => exact ⟨i + 1, (x + v + c) / 4294967296, ys.set (o + i) ((x + v + c) % 4294967296), rfl, by go_num, by omega, ⟨by have := HC.out; omega⟩, ⟨(HF.out.drewN (1 + nd)).set (o + i) (by omega) _ (by omega)⟩, ⟨fun l hl => by rw [List.getD_eq_getElem?_getD, List.getElem?_set_ne (by omega), ← List.getD_eq_getElem?_getD]; exact HO.out l (by omega)⟩, ⟨by
          have e := Int.mul_ediv_add_emod (x + v + c) 4294967296
          rw [HT.out, HV.out, HE.out, Int.pow_add, Int.pow_succ]
          generalize (x + v + c) % 4294967296 = r at *
          generalize (x + v + c) / 4294967296 = d at *
          have : 4294967296 ^ o * 4294967296 ^ i * (x + v + c) = 4294967296 ^ o * 4294967296 ^ i * (4294967296 * d + r) := by rw [e]
          grind⟩⟩
        case measure => simp [intOf]; omega
    · have HI := Aside0.mk (show i = b.length by omega)
      obtain rfl := HI.out
      have yo := dg_get HF.out.dg (o + b.length)
      have o0 := HF.out.own.cell (o + b.length) (by rw [HF.out.len]; omega)
      have f0 := HF.out.own.frozen (o + b.length)
      have HT := Aside0.mk (fun v => val_set ys (o + b.length) (by rw [HF.out.len]; omega) v)
      generalize ys.getD (o + b.length) 0 = x at *
      go_wp2
      go_end0
      refine ⟨ys.set (o + b.length) ((x + c) % 4294967296), (x + c) / 4294967296, rfl, by have := HC.out; omega, by have := HC.out; omega, ?_, HF.out.set (o + b.length) (by omega) _ (by omega)⟩
      have e := Int.mul_ediv_add_emod (x + c) 4294967296
      rw [HT.out, HV.out, List.take_length, Int.pow_add]
      generalize (x + c) % 4294967296 = r at *
      generalize (x + c) / 4294967296 = d at *
      have : 4294967296 ^ o * 4294967296 ^ b.length * (x + c) = 4294967296 ^ o * 4294967296 ^ b.length * (4294967296 * d + r) := by rw [e]
      grind
end Go.Proofs.Ytlaidcoickeihaa.Nb
namespace Go.Proofs.Ytlaidcoickeihaa.Big
theorem digit_head {q U V v1 v2 u2 u1 u0 p : Int} (hp : 0 < p) (hq : 0 ≤ q) (hV : (v1 * 4294967296 + v2) * p ≤ V) (hU : U < (u2 * 18446744073709551616 + u1 * 4294967296 + u0 + 1) * p) (h : q * V ≤ U) :
    q * (v1 * 4294967296 + v2) ≤ u2 * 18446744073709551616 + u1 * 4294967296 + u0 := by
  have h1 : q * ((v1 * 4294967296 + v2) * p) ≤ q * V := Int.mul_le_mul_of_nonneg_left hV hq
  have h2 : (q * (v1 * 4294967296 + v2)) * p < (u2 * 18446744073709551616 + u1 * 4294967296 + u0 + 1) * p := by rw [Int.mul_assoc]; omega
  have := Int.lt_of_mul_lt_mul_right h2 (Int.le_of_lt hp)
  omega
theorem digit_first {q v1 v2 u2 u1 u0 : Int} (hq : 0 ≤ q) (h2 : 0 ≤ v2) (hu : u0 < 4294967296) (h : q * (v1 * 4294967296 + v2) ≤ u2 * 18446744073709551616 + u1 * 4294967296 + u0) (hv : 0 < v1) :
    q ≤ (u2 * 4294967296 + u1) / v1 := by
  have h1 : 0 ≤ q * v2 := Int.mul_nonneg hq h2
  have h3 : q * (v1 * 4294967296 + v2) = (q * v1) * 4294967296 + q * v2 := by rw [Int.mul_add, ← Int.mul_assoc]
  have h4 : q * v1 ≤ u2 * 4294967296 + u1 := by omega
  exact (Int.le_ediv_iff_mul_le hv).2 h4
theorem guess_less {q g r v1 v2 u2 u1 u0 : Int} (h : q * (v1 * 4294967296 + v2) ≤ u2 * 18446744073709551616 + u1 * 4294967296 + u0) (hg : g * v1 + r = u2 * 4294967296 + u1) (hle : q ≤ g) (ht : r * 4294967296 + u0 < g * v2) : q ≤ g - 1 := by
  rcases Int.lt_or_eq_of_le hle with h' | h'
  · omega
  · subst h'
    have e : q * (v1 * 4294967296 + v2) = (q * v1) * 4294967296 + q * v2 := by rw [Int.mul_add, ← Int.mul_assoc]
    omega
theorem guess_near {g r U V v1 v2 u2 u1 u0 p : Int} (hp : 0 < p) (hg0 : 0 ≤ g) (hg1 : g < 4294967296) (hg : g * v1 + r = u2 * 4294967296 + u1) (ht : g * v2 ≤ r * 4294967296 + u0) (hv : 1 ≤ v1) (h2 : 0 ≤ v2)
    (hV1 : (v1 * 4294967296 + v2) * p ≤ V) (hV2 : V < (v1 * 4294967296 + v2 + 1) * p) (hU : (u2 * 18446744073709551616 + u1 * 4294967296 + u0) * p ≤ U) : (g - 1) * V ≤ U := by
  have e : g * (v1 * 4294967296 + v2) = (g * v1) * 4294967296 + g * v2 := by rw [Int.mul_add, ← Int.mul_assoc]
  have h1 : g * (v1 * 4294967296 + v2) ≤ u2 * 18446744073709551616 + u1 * 4294967296 + u0 := by omega
  have h3 : (g * (v1 * 4294967296 + v2)) * p ≤ (u2 * 18446744073709551616 + u1 * 4294967296 + u0) * p := Int.mul_le_mul_of_nonneg_right h1 (Int.le_of_lt hp)
  have h4 : g * V ≤ g * ((v1 * 4294967296 + v2 + 1) * p) := Int.mul_le_mul_of_nonneg_left (Int.le_of_lt hV2) hg0
  have h5 : g * ((v1 * 4294967296 + v2 + 1) * p) = (g * (v1 * 4294967296 + v2)) * p + g * p := by grind
  have h6 : g * p ≤ 4294967296 * p := Int.mul_le_mul_of_nonneg_right (by omega) (Int.le_of_lt hp)
  have h7 : 4294967296 * p ≤ (v1 * 4294967296 + v2) * p := Int.mul_le_mul_of_nonneg_right (by omega) (Int.le_of_lt hp)
  have h8 : (g - 1) * V = g * V - V := by grind
  omega
end Go.Proofs.Ytlaidcoickeihaa.Big
namespace Go.Proofs.Ytlaidcoickeihaa.Nb
open Go.RowKit Go.Proofs.Ytlaidcoickeihaa.Wd.PrintWords Go.Proofs.Ytlaidcoickeihaa.Wd.PrintLast Go.Proofs.Ytlaidcoickeihaa.Wd.PrintMore Go.Proofs.Ytlaidcoickeihaa.Big
theorem val_zero {l : List Int} (h : Dg l) (hv : val l = 0) : ∀ i, l.getD i 0 = 0 := by
  induction l with
  | nil => intro i; rfl
  | cons x l ih =>
    obtain ⟨hx, hl⟩ := dg_cons.1 h
    have hn := val_nonneg hl
    rw [val_cons] at hv
    intro i
    cases i with
    | zero => show x = 0; omega
    | succ i => exact ih hl (by omega) i
theorem zero_val {l : List Int} (h : ∀ i, l.getD i 0 = 0) : val l = 0 := by
  induction l with
  | nil => rfl
  | cons x l ih =>
    have h0 : x = 0 := h 0
    have := ih (fun i => h (i + 1))
    rw [val_cons, this, h0]; rfl
theorem getD_drop (l : List Int) (h i : Nat) : (l.drop h).getD i 0 = l.getD (h + i) 0 := by
  rw [List.getD_eq_getElem?_getD, List.getElem?_drop, List.getD_eq_getElem?_getD]
theorem hi_zero {l : List Int} (hd : Dg l) {h : Nat} (hv : val l < 4294967296 ^ h) : ∀ j, h ≤ j → l.getD j 0 = 0 := by
  have e := val_take_drop l h
  have h1 := val_nonneg (dg_take hd h)
  have h2 := val_nonneg (dg_drop hd h)
  have hz : val (l.drop h) = 0 := by
    rcases Int.lt_or_eq_of_le h2 with c | c
    · have : (4294967296 : Int) ^ h * 1 ≤ 4294967296 ^ h * val (l.drop h) := Int.mul_le_mul_of_nonneg_left c (Int.le_of_lt (bpos h))
      omega
    · exact c.symm
  intro j hj
  have := val_zero (dg_drop hd h) hz (j - h)
  rw [getD_drop, show h + (j - h) = j by omega] at this
  exact this
theorem lo_val {l : List Int} {h : Nat} (hz : ∀ j, h ≤ j → l.getD j 0 = 0) : val l = val (l.take h) := by
  have e := val_take_drop l h
  have : val (l.drop h) = 0 := zero_val fun i => by rw [getD_drop]; exact hz _ (by omega)
  rw [this] at e; simpa using e
theorem bpow_le {a b : Nat} (h : a ≤ b) : (4294967296 : Int) ^ a ≤ 4294967296 ^ b := by
  obtain ⟨c, rfl⟩ := Nat.exists_eq_add_of_le h
  rw [Int.pow_add]
  have h1 := bpos a
  have h2 := bpos c
  have : (4294967296 : Int) ^ a * 1 ≤ 4294967296 ^ a * 4294967296 ^ c := Int.mul_le_mul_of_nonneg_left h2 (Int.le_of_lt h1)
  omega
theorem lo_lt {l : List Int} (hd : Dg l) {h : Nat} (hz : ∀ j, h ≤ j → l.getD j 0 = 0) : val l < 4294967296 ^ h := by
  rw [lo_val hz]
  have := val_lt (dg_take hd h)
  refine Int.lt_of_lt_of_le this ?_
  exact bpow_le (List.length_take_le _ _)
theorem three {l : List Int} (hd : Dg l) (N : Nat) (hz : ∀ j, N + 3 ≤ j → l.getD j 0 = 0) :
    (l.getD (N + 2) 0 * 18446744073709551616 + l.getD (N + 1) 0 * 4294967296 + l.getD N 0) * 4294967296 ^ N ≤ val l ∧ val l < (l.getD (N + 2) 0 * 18446744073709551616 + l.getD (N + 1) 0 * 4294967296 + l.getD N 0 + 1) * 4294967296 ^ N := by
  have e := lo_val hz
  rw [val_take_succ, val_take_succ, val_take_succ] at e
  have h1 := val_nonneg (dg_take hd N)
  have h2 : val (l.take N) < 4294967296 ^ N := by
    have := val_lt (dg_take hd N)
    refine Int.lt_of_lt_of_le this ?_
    exact bpow_le (List.length_take_le _ _)
  rw [Int.pow_succ 4294967296 (N + 1), Int.pow_succ 4294967296 N, show N + 1 + 1 = N + 2 from rfl] at e
  generalize (4294967296 : Int) ^ N = p at *
  generalize l.getD (N + 2) 0 = x2 at *
  generalize l.getD (N + 1) 0 = x1 at *
  generalize l.getD N 0 = x0 at *
  constructor
  · have : (x2 * 18446744073709551616 + x1 * 4294967296 + x0) * p = p * x0 + p * 4294967296 * x1 + p * 4294967296 * 4294967296 * x2 := by grind
    omega
  · have : (x2 * 18446744073709551616 + x1 * 4294967296 + x0 + 1) * p = p * x0 + p * 4294967296 * x1 + p * 4294967296 * 4294967296 * x2 + p := by grind
    omega
theorem two {l : List Int} (hd : Dg l) (N : Nat) (hz : ∀ j, N + 2 ≤ j → l.getD j 0 = 0) :
    (l.getD (N + 1) 0 * 4294967296 + l.getD N 0) * 4294967296 ^ N ≤ val l ∧ val l < (l.getD (N + 1) 0 * 4294967296 + l.getD N 0 + 1) * 4294967296 ^ N := by
  have h := three hd N (fun j hj => hz j (by omega))
  rw [hz (N + 2) (by omega)] at h
  simpa using h
structure Heads (U V v1 v2 u2 u1 u0 p : Int) : Prop where
  hp : 0 < p
  hv1 : 2147483648 ≤ v1 ∧ v1 < 4294967296
  hv2 : 0 ≤ v2 ∧ v2 < 4294967296
  hu2 : 0 ≤ u2 ∧ u2 < 4294967296
  hu1 : 0 ≤ u1 ∧ u1 < 4294967296
  hu0 : 0 ≤ u0 ∧ u0 < 4294967296
  V1 : (v1 * 4294967296 + v2) * p ≤ V
  V2 : V < (v1 * 4294967296 + v2 + 1) * p
  U1 : (u2 * 18446744073709551616 + u1 * 4294967296 + u0) * p ≤ U
  U2 : U < (u2 * 18446744073709551616 + u1 * 4294967296 + u0 + 1) * p
  lt : U < 4294967296 * V
theorem Heads.Vpos {U V v1 v2 u2 u1 u0 p : Int} (h : Heads U V v1 v2 u2 u1 u0 p) : 0 < V := by
  have h1 := h.V1
  have : 0 < (v1 * 4294967296 + v2) * p := Int.mul_pos (by have := h.hv1; have := h.hv2; omega) h.hp
  omega
theorem Heads.Upos {U V v1 v2 u2 u1 u0 p : Int} (h : Heads U V v1 v2 u2 u1 u0 p) : 0 ≤ U := by
  have h1 := h.U1
  have : 0 ≤ (u2 * 18446744073709551616 + u1 * 4294967296 + u0) * p := Int.mul_nonneg (by have := h.hu2; have := h.hu1; have := h.hu0; omega) (Int.le_of_lt h.hp)
  omega
theorem Heads.q0 {U V v1 v2 u2 u1 u0 p : Int} (h : Heads U V v1 v2 u2 u1 u0 p) : 0 ≤ U / V := Int.ediv_nonneg h.Upos (Int.le_of_lt h.Vpos)
theorem Heads.q1 {U V v1 v2 u2 u1 u0 p : Int} (h : Heads U V v1 v2 u2 u1 u0 p) : U / V < 4294967296 := (Int.ediv_lt_iff_lt_mul h.Vpos).2 h.lt
theorem Heads.head {U V v1 v2 u2 u1 u0 p : Int} (h : Heads U V v1 v2 u2 u1 u0 p) : U / V * (v1 * 4294967296 + v2) ≤ u2 * 18446744073709551616 + u1 * 4294967296 + u0 :=
  digit_head h.hp h.q0 h.V1 h.U2 (by have := Int.mul_ediv_add_emod U V; have := Int.emod_nonneg U (Int.ne_of_gt h.Vpos); rw [Int.mul_comm]; omega)
theorem Heads.u2v1 {U V v1 v2 u2 u1 u0 p : Int} (h : Heads U V v1 v2 u2 u1 u0 p) : u2 ≤ v1 := by
  rcases Int.lt_or_le v1 u2 with c | c
  · exfalso
    have h1 := h.U1
    have h2 := h.V2
    have h3 := h.lt
    have a1 : ((v1 + 1) * 18446744073709551616) * p ≤ (u2 * 18446744073709551616 + u1 * 4294967296 + u0) * p := Int.mul_le_mul_of_nonneg_right (by have := h.hu1; have := h.hu0; omega) (Int.le_of_lt h.hp)
    have a2 : (4294967296 * (v1 * 4294967296 + v2 + 1)) * p ≤ ((v1 + 1) * 18446744073709551616) * p := Int.mul_le_mul_of_nonneg_right (by have := h.hv2; omega) (Int.le_of_lt h.hp)
    rw [Int.mul_assoc] at a2
    omega
  · exact c
structure Guess (U V v1 v2 u2 u1 u0 p g r : Int) : Prop where
  eq : g * v1 + r = u2 * 4294967296 + u1
  ge : U / V ≤ g
  r0 : 0 ≤ r
theorem Heads.start {U V v1 v2 u2 u1 u0 p : Int} (h : Heads U V v1 v2 u2 u1 u0 p) : Guess U V v1 v2 u2 u1 u0 p ((u2 * 4294967296 + u1) / v1) ((u2 * 4294967296 + u1) % v1) :=
  ⟨by rw [Int.mul_comm]; exact Int.mul_ediv_add_emod _ _, digit_first h.q0 h.hv2.1 h.hu0.2 h.head (by have := h.hv1; omega), Int.emod_nonneg _ (by have := h.hv1; omega)⟩
theorem Guess.less {U V v1 v2 u2 u1 u0 p g r : Int} (h : Heads U V v1 v2 u2 u1 u0 p) (k : Guess U V v1 v2 u2 u1 u0 p g r) (hc : 4294967296 ≤ g ∨ r * 4294967296 + u0 < g * v2) : Guess U V v1 v2 u2 u1 u0 p (g - 1) (r + v1) := by
  refine ⟨by have := k.eq; rw [Int.sub_mul, Int.one_mul]; omega, ?_, by have := k.r0; have := h.hv1; omega⟩
  rcases hc with hc | hc
  · have := h.q1; omega
  · exact guess_less h.head k.eq k.ge hc
structure Near (U V g : Int) : Prop where
  g0 : 0 ≤ g
  g1 : g < 4294967296
  ge : U / V ≤ g
  near : (g - 1) * V ≤ U
theorem Guess.stands {U V v1 v2 u2 u1 u0 p g r : Int} (h : Heads U V v1 v2 u2 u1 u0 p) (k : Guess U V v1 v2 u2 u1 u0 p g r) (h1 : g < 4294967296) (h2 : g * v2 ≤ r * 4294967296 + u0) : Near U V g :=
  ⟨Int.le_trans h.q0 k.ge, h1, k.ge, guess_near h.hp (Int.le_trans h.q0 k.ge) h1 k.eq h2 (by have := h.hv1; omega) h.hv2.1 h.V1 h.V2 h.U1⟩
theorem Guess.breaks {U V v1 v2 u2 u1 u0 p g r : Int} (h : Heads U V v1 v2 u2 u1 u0 p) (k : Guess U V v1 v2 u2 u1 u0 p g r) (hr : 4294967296 ≤ r) : Near U V g := by
  have g0 := Int.le_trans h.q0 k.ge
  have g1 : g < 4294967296 := by
    rcases Int.lt_or_le g 4294967296 with c | c
    · exact c
    · exfalso
      have a : 4294967296 * v1 ≤ g * v1 := Int.mul_le_mul_of_nonneg_right c (by have := h.hv1; omega)
      have := k.eq; have := h.u2v1; have := h.hu1; omega
  refine k.stands h g1 ?_
  have : g * v2 ≤ 4294967296 * v2 := Int.mul_le_mul_of_nonneg_right (by omega) h.hv2.1
  have := h.hv2; have := h.hu0; omega
theorem Near.right {U V g : Int} (k : Near U V g) (hV : 0 < V) (h : g * V ≤ U) : 0 ≤ U - g * V ∧ U - g * V < V := by
  have e := Int.mul_ediv_add_emod U V
  have := Int.emod_lt_of_pos U hV
  have a : U / V * V ≤ g * V := Int.mul_le_mul_of_nonneg_right k.ge (Int.le_of_lt hV)
  rw [Int.mul_comm] at e
  omega
theorem Near.less {U V g : Int} (k : Near U V g) (hV : 0 < V) (hU : 0 ≤ U) (h : U < g * V) : 0 ≤ U - (g - 1) * V ∧ U - (g - 1) * V < V ∧ 0 ≤ g - 1 := by
  have a := k.near
  have e : (g - 1) * V = g * V - V := by rw [Int.sub_mul, Int.one_mul]
  have g0 := k.g0
  refine ⟨by omega, by omega, ?_⟩
  rcases Int.lt_or_eq_of_le g0 with c | c
  · omega
  · exfalso
    subst c
    rw [Int.zero_mul] at h
    omega
theorem digit_ok {U V g vy : Int} {k n : Nat} (hN : Near U (V * 4294967296 ^ k) g) (hV : 0 < V) (hy : 0 ≤ vy) (e : vy = U + 4294967296 ^ k * (4294967296 ^ n * 4294967296 * 0 - g * V)) : vy = U - g * (V * 4294967296 ^ k) ∧ vy < V * 4294967296 ^ k := by
  have e1 : vy = U - g * (V * 4294967296 ^ k) := by rw [e]; grind
  have := hN.right (Int.mul_pos hV (bpos k)) (by omega)
  omega
theorem digit_back {U V g vy vz d : Int} {k n : Nat} (hN : Near U (V * 4294967296 ^ k) g) (hV : 0 < V) (hU : 0 ≤ U) (e : vy = U + 4294967296 ^ k * (4294967296 ^ n * 4294967296 * 1 - g * V)) (hy : vy < 4294967296 ^ (k + n + 1))
    (f : vz = vy + 4294967296 ^ k * (V - 4294967296 ^ n * 4294967296 * d)) (d0 : 0 ≤ d) (d1 : d ≤ 1) (hz : vz < 4294967296 ^ (k + n + 1)) : vz = U - (g - 1) * (V * 4294967296 ^ k) ∧ vz < V * 4294967296 ^ k ∧ 0 ≤ vz ∧ 0 ≤ g - 1 := by
  have ep : (4294967296 : Int) ^ (k + n + 1) = 4294967296 ^ k * (4294967296 ^ n * 4294967296) := by rw [Int.pow_succ, Int.pow_add, Int.mul_assoc]
  have e1 : vy = U + 4294967296 ^ (k + n + 1) - g * (V * 4294967296 ^ k) := by rw [e, ep]; grind
  have h := hN.less (Int.mul_pos hV (bpos k)) hU (by omega)
  have e2 : vz = U - (g - 1) * (V * 4294967296 ^ k) + 4294967296 ^ (k + n + 1) - 4294967296 ^ (k + n + 1) * d := by rw [f, e1, ep]; grind
  have hd : d = 0 ∨ d = 1 := by omega
  clear ep f e
  rcases hd with rfl | rfl
  · generalize (4294967296 : Int) ^ (k + n + 1) = p at *; omega
  · generalize (4294967296 : Int) ^ (k + n + 1) = p at *; omega
theorem heads_of {us vs : List Int} {k T : Nat} (du : Dg us) (dv : Dg vs) (lv : vs.length = T + 2) (hlt : val us < 4294967296 ^ (k + 1) * val vs) (ht : 2147483648 ≤ vs.getD (T + 1) 0) :
    Heads (val us) (val vs * 4294967296 ^ k) (vs.getD (T + 1) 0) (vs.getD T 0) (us.getD (k + T + 2) 0) (us.getD (k + T + 1) 0) (us.getD (k + T) 0) (4294967296 ^ (k + T)) := by
  have hv1 := val_lt dv
  rw [lv] at hv1
  have hb := bpos (k + 1)
  have hlt2 : val us < 4294967296 ^ (k + T + 3) := by
    refine Int.lt_of_lt_of_le hlt ?_
    rw [show k + T + 3 = k + 1 + (T + 2) by omega, Int.pow_add _ (k + 1) (T + 2)]
    exact Int.mul_le_mul_of_nonneg_left (Int.le_of_lt hv1) (Int.le_of_lt hb)
  obtain ⟨a1, a2⟩ := three du (k + T) (hi_zero du hlt2)
  obtain ⟨b1, b2⟩ := two dv T (fun j hj => by rw [List.getD_eq_getElem?_getD, List.getElem?_eq_none (by omega)]; rfl)
  have hp := bpos k
  have ep : (4294967296 : Int) ^ (k + T) = 4294967296 ^ T * 4294967296 ^ k := by rw [Nat.add_comm, Int.pow_add]
  refine ⟨bpos _, ⟨ht, (dg_get dv _).2⟩, dg_get dv _, dg_get du _, dg_get du _, dg_get du _, ?_, ?_, a1, a2, ?_⟩
  · rw [ep, ← Int.mul_assoc]; exact Int.mul_le_mul_of_nonneg_right b1 (Int.le_of_lt hp)
  · rw [ep, ← Int.mul_assoc]; exact Int.mul_lt_mul_of_pos_right b2 hp
  · rw [Int.pow_succ] at hlt
    have : 4294967296 * (val vs * 4294967296 ^ k) = 4294967296 ^ k * 4294967296 * val vs := by grind
    omega
theorem top_bounds {b : List Int} {T : Nat} (db : Dg b) (lb : b.length = T + 2) : 4294967296 ^ (T + 1) * b.getD (T + 1) 0 ≤ val b ∧ val b < 4294967296 ^ (T + 1) * (b.getD (T + 1) 0 + 1) := by
  have e := val_take_succ b (T + 1)
  rw [List.take_of_length_le (by omega)] at e
  have h1 := val_nonneg (dg_take db (T + 1))
  have h2 : val (b.take (T + 1)) < 4294967296 ^ (T + 1) := by
    have := val_lt (dg_take db (T + 1))
    exact Int.lt_of_lt_of_le this (bpow_le (List.length_take_le _ _))
  rw [Int.mul_add, Int.mul_one]
  omega
theorem norm_words {b vs : List Int} {s T : Nat} (db : Dg b) (lb : b.length = T + 2) (hq : LZ (b.getD (T + 1) 0) s) (dv : Dg vs) (lv : vs.length = T + 3) (hv : val vs = 2 ^ s * val b) :
    val (vs.take (T + 2)) = 2 ^ s * val b ∧ 2147483648 ≤ (vs.take (T + 2)).getD (T + 1) 0 ∧ 4294967296 ^ (T + 1) ≤ val b := by
  obtain ⟨t1, t2⟩ := top_bounds db lb
  obtain ⟨hs, q1, q2⟩ := hq
  have hd := dg_get db (T + 1)
  generalize b.getD (T + 1) 0 = x at *
  have hp : (0 : Int) < 2 ^ s := Int.pow_pos (by decide)
  have hB : (4294967296 : Int) = 2 ^ (32 - s) * 2 ^ s := by rw [← Int.pow_add, show 32 - s + s = 32 by omega]; decide
  have hx : x + 1 ≤ 2 ^ (32 - s) := by
    rw [hB] at q2
    exact Int.lt_of_mul_lt_mul_right q2 (Int.le_of_lt hp)
  have hx2 : (x + 1) * 2 ^ s ≤ 4294967296 := by
    rw [hB]; exact Int.mul_le_mul_of_nonneg_right hx (Int.le_of_lt hp)
  have hx0 : 1 ≤ x := by
    rcases Int.lt_or_le x 1 with c | c
    · have : x = 0 := by omega
      subst this; omega
    · exact c
  have hb := bpos (T + 1)
  have h3 : 2 ^ s * val b < 4294967296 ^ (T + 2) := by
    have a1 : 2 ^ s * val b < 2 ^ s * (4294967296 ^ (T + 1) * (x + 1)) := Int.mul_lt_mul_of_pos_left t2 hp
    have a2 : 4294967296 ^ (T + 1) * ((x + 1) * 2 ^ s) ≤ 4294967296 ^ (T + 1) * 4294967296 := Int.mul_le_mul_of_nonneg_left hx2 (Int.le_of_lt hb)
    have a3 : 2 ^ s * (4294967296 ^ (T + 1) * (x + 1)) = 4294967296 ^ (T + 1) * ((x + 1) * 2 ^ s) := by grind
    rw [Int.pow_succ _ (T + 1)]; omega
  have h4 : val (vs.take (T + 2)) = 2 ^ s * val b := by rw [← hv]; exact (lo_val (hi_zero dv (by rw [hv]; exact h3))).symm
  refine ⟨h4, ?_, ?_⟩
  · have l4 : (vs.take (T + 2)).length = T + 2 := by rw [List.length_take]; omega
    obtain ⟨u1, u2⟩ := top_bounds (dg_take dv (T + 2)) l4
    rw [h4] at u2
    generalize (vs.take (T + 2)).getD (T + 1) 0 = y at *
    have a1 : 2 ^ s * (4294967296 ^ (T + 1) * x) ≤ 2 ^ s * val b := Int.mul_le_mul_of_nonneg_left t1 (Int.le_of_lt hp)
    have a3 : 2 ^ s * (4294967296 ^ (T + 1) * x) = 4294967296 ^ (T + 1) * (x * 2 ^ s) := by grind
    have a4 : 4294967296 ^ (T + 1) * (x * 2 ^ s) < 4294967296 ^ (T + 1) * (y + 1) := by omega
    have := Int.lt_of_mul_lt_mul_left a4 (Int.le_of_lt hb)
    omega
  · have : 4294967296 ^ (T + 1) * 1 ≤ 4294967296 ^ (T + 1) * x := Int.mul_le_mul_of_nonneg_left hx0 (Int.le_of_lt hb)
    omega
theorem start_lt {a b : List Int} {s T : Nat} (da : Dg a) (hl : T + 2 ≤ a.length) (hb : 4294967296 ^ (T + 1) ≤ val b) : 2 ^ s * val a < 4294967296 ^ (a.length + 1 - (T + 2)) * (2 ^ s * val b) := by
  have h1 := val_lt da
  have hp : (0 : Int) < 2 ^ s := Int.pow_pos (by decide)
  have e : (4294967296 : Int) ^ a.length = 4294967296 ^ (a.length + 1 - (T + 2)) * 4294967296 ^ (T + 1) := by rw [← Int.pow_add]; congr 1; omega
  have h2 : 4294967296 ^ (a.length + 1 - (T + 2)) * 4294967296 ^ (T + 1) ≤ 4294967296 ^ (a.length + 1 - (T + 2)) * val b := Int.mul_le_mul_of_nonneg_left hb (Int.le_of_lt (bpos _))
  have h3 : val a < 4294967296 ^ (a.length + 1 - (T + 2)) * val b := by omega
  have h4 := Int.mul_lt_mul_of_pos_left h3 hp
  generalize (4294967296 : Int) ^ (a.length + 1 - (T + 2)) = p at *
  have : p * (2 ^ s * val b) = 2 ^ s * (p * val b) := by grind
  omega
theorem two_split (s : Nat) (hs : s ≤ 32) : (4294967296 : Int) = 2 ^ (32 - s) * 2 ^ s := by
  rw [← Int.pow_add, show 32 - s + s = 32 by omega]; decide
theorem low_zero {ws : List Int} {s : Nat} (hs : s ≤ 31) {X : Int} (hv : val ws = 2 ^ s * X) : ws.getD 0 0 % 2 ^ s = 0 := by
  have e := val_drop ws 0
  rw [List.drop_zero, hv] at e
  have hB := two_split s (by omega)
  have : ws.getD 0 0 = 2 ^ s * (X - 2 ^ (32 - s) * val (ws.drop (0 + 1))) := by
    generalize val (ws.drop (0 + 1)) = D at *
    rw [hB] at e
    generalize (2 : Int) ^ (32 - s) = p at *
    grind
  rw [this]; exact Int.mul_emod_right _ _
theorem shl_mod (y : Int) (s : Nat) (hs : s ≤ 31) : y * 2 ^ (32 - s) % 4294967296 = (y % 2 ^ s) * 2 ^ (32 - s) := by
  have hp : (0 : Int) < 2 ^ (32 - s) := Int.pow_pos (by decide)
  conv => lhs; rw [two_split s (by omega), Int.mul_comm y]
  rw [Int.mul_emod_mul_of_pos _ _ hp, Int.mul_comm]
theorem rsh_step {x y p vr vt d : Int} {s : Nat} (hs : s ≤ 31) (h : 2 ^ s * vr = vt + p * (x % 2 ^ s)) (hd : d = x / 2 ^ s + y * 2 ^ (32 - s) % 4294967296) : 2 ^ s * (vr + p * d) = vt + p * x + p * 4294967296 * (y % 2 ^ s) := by
  rw [shl_mod y s hs] at hd
  have e := Int.mul_ediv_add_emod x (2 ^ s)
  have hB := two_split s (by omega)
  subst hd
  generalize x / 2 ^ s = q at *
  generalize x % 2 ^ s = r at *
  generalize y % 2 ^ s = z at *
  generalize (2 : Int) ^ (32 - s) = m at *
  generalize (2 : Int) ^ s = t at *
  rw [hB, ← e]
  grind
theorem rest_of {U vq V vw A B t : Int} (e : U = vq * V + vw) (h1 : U = t * A) (h2 : V = t * B) : vw = t * (A - vq * B) := by
  subst h1; subst h2
  grind
theorem rest_start {ws : List Int} {s : Nat} (h : ws.getD 0 0 % 2 ^ s = 0) (n : Nat) : 2 ^ s * val (List.replicate n 0) = val (ws.take 0) + 4294967296 ^ 0 * (ws.getD 0 0 % 2 ^ s) := by
  rw [h, val_replicate, List.take_zero, val_nil]; simp
theorem rest_end {ws rs : List Int} {n s : Nat} {vq vb va : Int} (dw : Dg ws) (hr : 2 ^ s * val rs = val (ws.take n) + 4294967296 ^ n * (ws.getD n 0 % 2 ^ s)) (hlt : val ws < 2 ^ s * vb) (hn : 2 ^ s * vb < 4294967296 ^ n) (hw : val ws = 2 ^ s * (va - vq * vb)) : va = vq * vb + val rs ∧ val rs < vb := by
  have hz := hi_zero dw (Int.lt_trans hlt hn)
  rw [hz n (Nat.le_refl _), Int.zero_emod, Int.mul_zero, Int.add_zero, ← lo_val hz] at hr
  have hp : (0 : Int) < 2 ^ s := Int.pow_pos (by decide)
  have h1 : val rs = va - vq * vb := Int.eq_of_mul_eq_mul_left (Int.ne_of_gt hp) (hr.trans hw)
  refine ⟨by omega, Int.lt_of_mul_lt_mul_left (a := 2 ^ s) (by rw [hr]; exact hlt) (Int.le_of_lt hp)⟩
end Go.Proofs.Ytlaidcoickeihaa.Nb
namespace Go.Proofs.Ytlaidcoickeihaa.Nb
open Go.RowKit Go.Proofs.Ytlaidcoickeihaa.Wd.PrintWords Go.Proofs.Ytlaidcoickeihaa.Wd.PrintLast Go.Proofs.Ytlaidcoickeihaa.Wd.PrintMore Go.Proofs.Ytlaidcoickeihaa.Big
set_option synthInstance.maxSize 2000
set_option synthInstance.maxHeartbeats 400000
theorem wd_at0 {w : World} {g : Nat} {l : List Int} (h : Wd w (some ⟨g, 0, none⟩) l) (i : Nat) (hi : i < l.length) : w.cell? ⟨g, i, none⟩ = some (.int .u32 (l.getD i 0)) := by
  obtain ⟨ad, e, hc⟩ := wd_at h i hi
  cases e
  have ea : (⟨g, 0, none⟩ : Addr).add i = ⟨g, i, none⟩ := by unfold Addr.add; by_cases h0 : i = 0 <;> simp [h0]
  rwa [ea] at hc
structure LS (w : World) (gu gq gv la : Nat) (vt : List Int) (U0 : Int) (j : Nat) (us qs : List Int) (W : World) : Prop where
  ou : Own W gu us
  lu : us.length = la + 1
  du : Dg us
  oq : Own W gq qs
  lq : qs.length = la + 1 - vt.length
  dq : Dg qs
  rv : Wd W (some ⟨gv, 0, none⟩) vt
  bel : Below w.heap.size w W
  lt : val us < 4294967296 ^ j * val vt
  eq : U0 = val qs * val vt + val us
  zq : ∀ l, l < j → qs.getD l 0 = 0
theorem Fill.drew {w : World} {g n i : Nat} {xs : List Int} {W : World} (h : Fill w g n i xs W) : Fill w g n i xs W.drew := ⟨h.own, below_drew h.below, h.base, h.len, h.dg, h.zero⟩
theorem LS.drawn {w : World} {gu gq gv la : Nat} {vt : List Int} {U0 : Int} {j : Nat} {us qs : List Int} {W W' : World} (h : LS w gu gq gv la vt U0 j us qs W) (hd : Drawn0 W W') : LS w gu gq gv la vt U0 j us qs W' := by
  obtain ⟨⟨n, rfl⟩⟩ := hd
  exact ⟨h.ou, h.lu, h.du, h.oq, h.lq, h.dq, h.rv, pw_below_drewN h.bel n, h.lt, h.eq, h.zq⟩
theorem Own.far {W : World} {g : Nat} {xs : List Int} (h : Own W g xs) {p : Addr} (hp : g ≠ p.block) (u : Value) : Own (W.setCell p u) g xs := blk_far h hp u
theorem LS.next {w : World} {gu gq gv la : Nat} {vt : List Int} {U0 : Int} {k : Nat} {us qs us' : List Int} {W W' : World} (h : LS w gu gq gv la vt U0 (k + 1) us qs W) (q : Int) (hq : 0 ≤ q ∧ q < 4294967296) (hu : val us' = val us - q * (val vt * 4294967296 ^ k)) (hlt : val us' < val vt * 4294967296 ^ k)
    (ou : Own W' gu us') (lu : us'.length = us.length) (du : Dg us') (oq : Own W' gq qs) (rv : Wd W' (some ⟨gv, 0, none⟩) vt) (bel : Below w.heap.size w W') (h1 : gu ≠ gq) (h2 : gv ≠ gq) (hb : w.heap.size ≤ gq) (hk : k < la + 1 - vt.length) :
    LS w gu gq gv la vt U0 k us' (qs.set k q) (W'.setCell ⟨gq, k, none⟩ (.int .u32 q)) := by
  refine ⟨ou.far h1 _, lu.trans h.lu, du, oq.set k q, by rw [List.length_set]; exact h.lq, dg_set h.dq k hq, wd_set rv (fun ad ha _ => by cases ha; exact h2) _, below_set bel hb, by rw [Int.mul_comm]; exact hlt, ?_, fun l hl => by
    rw [List.getD_eq_getElem?_getD, List.getElem?_set_ne (by omega), ← List.getD_eq_getElem?_getD]; exact h.zq l (by omega)⟩
  rw [val_set _ _ (by rw [h.lq]; exact hk), h.zq k (by omega), hu, h.eq]
  grind
theorem win_hi {w W : World} {g k n : Nat} {ws ys vt : List Int} (H : Win w g (k + n + 1) ws ys W) (dw : Dg ws) (hlt : val ws < 4294967296 ^ (k + 1) * val vt) (dv : Dg vt) (lv : vt.length = n) : val ys < 4294967296 ^ (k + n + 1) := by
  have h1 : val ws < 4294967296 ^ (k + n + 1) := by
    refine Int.lt_of_lt_of_le hlt ?_
    have := val_lt dv
    rw [show k + n + 1 = k + 1 + vt.length by omega, Int.pow_add _ (k + 1) vt.length]
    exact Int.mul_le_mul_of_nonneg_left (Int.le_of_lt this) (Int.le_of_lt (bpos _))
  exact lo_lt H.dg (fun j hj => (H.out j hj).trans (hi_zero dw h1 j hj))
theorem borrow_pos {U V g vy : Int} {k n : Nat} (hU : 0 ≤ U) (hg : 0 ≤ g) (e : vy = U + 4294967296 ^ k * (4294967296 ^ n * 4294967296 * 1 - g * V)) (hy : vy < 4294967296 ^ (k + n + 1)) : 1 ≤ g := by
  rcases Int.lt_or_le g 1 with c | c
  · have : g = 0 := by omega
    subst this
    have ep : (4294967296 : Int) ^ (k + n + 1) = 4294967296 ^ k * (4294967296 ^ n * 4294967296) := by rw [Int.pow_succ, Int.pow_add, Int.mul_assoc]
    rw [Int.mul_one, Int.zero_mul, Int.sub_zero, ← ep] at e
    omega
  · exact c
theorem Own.oth {w W : World} {g h gu : Nat} {xs ys qs : List Int} (H : Win w gu h xs ys W) (ho : Own w g qs) (hne : g ≠ gu) : Own W g qs := (H.oth g hne).trans ho
theorem takeAway_n (w : World) (g o n : Nat) (xs : List Int) (cap : Nat) (A1 : Option Addr) (c1 : Nat) (b : List Int) (q : Int) (hn : b.length = n) (hg : Own w g xs) (dx : Dg xs) (ho : o + n + 1 ≤ xs.length) (hl : xs.length ≤ 70368744177664) (h1 : Wd w A1 b) (d1 : Dg b) (hne : ∀ ad, A1 = some ad → 0 < b.length → ad.block ≠ g) (q0 : 0 ≤ q) (q1 : q < 4294967296) :
    Calls Try.prog 97 #[.slice (some ⟨g, o, none⟩) (n + 1) cap, .slice A1 n c1, .int .u64 q] w fun e w' => ∃ ys bo, e = .returned (.bool (bo != 0)) ∧ 0 ≤ bo ∧ bo ≤ 1 ∧ val ys = val xs + 4294967296 ^ o * (4294967296 ^ n * 4294967296 * bo - q * val b) ∧ Win w g (o + n + 1) xs ys w' := by
  subst hn
  exact takeAway_any w g o xs cap A1 c1 b q hg dx ho hl h1 d1 hne q0 q1
theorem putBack_n (w : World) (g o n : Nat) (xs : List Int) (cap : Nat) (A1 : Option Addr) (c1 : Nat) (b : List Int) (hn : b.length = n) (hg : Own w g xs) (dx : Dg xs) (ho : o + n + 1 ≤ xs.length) (hl : xs.length ≤ 70368744177664) (h1 : Wd w A1 b) (d1 : Dg b) (hne : ∀ ad, A1 = some ad → 0 < b.length → ad.block ≠ g) :
    Calls Try.prog 98 #[.slice (some ⟨g, o, none⟩) (n + 1) cap, .slice A1 n c1] w fun e w' => ∃ ys d, e = .returned (.tuple #[]) ∧ 0 ≤ d ∧ d ≤ 1 ∧ val ys = val xs + 4294967296 ^ o * (val b - 4294967296 ^ n * 4294967296 * d) ∧ Win w g (o + n + 1) xs ys w' := by
  subst hn
  exact putBack_any w g o xs cap A1 c1 b hg dx ho hl h1 d1 hne
theorem cut_w (A : Option Addr) (n c : Nat) (j : Int) (h0 : 0 ≤ j) (hm : j ≤ n) (hc : n ≤ c) (W : World) : (Instr.slice 83 (.slice A n c) none (some (.int .i64 j)) none).run Try.prog W = .ok (.slice A j.toNat c) W := by
  obtain ⟨i0, hi, _⟩ := Option.map_eq_some_iff.1 info_w
  exact cut_to 83 116 .i64 Try.underlying83 hi A n c j h0 hm hc W
set_option maxHeartbeats 8000000 in
set_option maxRecDepth 100000 in
theorem long_any (w : World) (A0 A1 : Option Addr) (c0 c1 : Nat) (a b : List Int) (t : Nat) (h0 : Wd w A0 a) (h1 : Wd w A1 b) (d0 : Dg a) (d1 : Dg b) (hm : b.length = t + 1) (ht1 : 1 ≤ t) (hn : b.length ≤ a.length) (ha : a.length ≤ 35184372088832) (ht : 1 ≤ b.getD t 0) :
    Calls Try.prog 85 #[.slice A0 a.length c0, .slice A1 b.length c1] w fun e w' => ∃ gq qs gr rs, e = .returned (.tuple #[.slice (some ⟨gq, 0, none⟩) qs.length qs.length, .slice (some ⟨gr, 0, none⟩) rs.length rs.length]) ∧ Row w gq (a.length + 1 - b.length) qs w' ∧ Row w gr b.length rs w' ∧ val a = val qs * val b + val rs ∧ val rs < val b := by
  have H0 := Aside0.mk h0
  have H1 := Aside0.mk h1
  have D0 := Aside0.mk d0
  have D1 := Aside0.mk d1
  obtain ⟨ad1, e1, x1⟩ := wd_at h1 t (by omega)
  have yt := dg_get d1 t
  generalize ht' : b.getD t 0 = top at *
  have HTop := Aside0.mk ht'
  have HM := Aside0.mk hm
  have hidx : (b.length : Int) - 1 = (t : Int) := by omega
  have hidx0 : (0 : Int) ≤ (t : Int) := by omega
  have hidx1 : (t : Int) < (b.length : Int) := by omega
  have hla : b.length ≤ 35184372088832 := by omega
  have hla2 : a.length ≤ 70368744177000 := by omega
  have hlb2 : b.length ≤ 70368744177000 := by omega
  clear hm
  clear h0 h1 d0 d1 ht'
  subst e1
  go_enter Try.func85, Try.ntmps85
  go_wp2_with (go_at_call 95; refine (lz32_any _ top ht yt.2).mono ?_; rintro e w' ⟨s, rfl, hq, rfl⟩; have HQ := Aside0.mk hq; have hs : s ≤ 31 := hq.1; clear hq)
  clear x1
  go_region_held3 (fun W => Kn (Below w.heap.size w W)) (((repeat' apply And.intro) <;> first | with_reducible assumption | exact Kn.out | infer_instance | ((try (with_reducible refine c_drew ?_)); (repeat' (first | with_reducible refine kset Kn.out ?_ | with_reducible refine kset ‹_› ?_ | with_reducible refine c_low' ?_)); with_reducible assumption))) ((first | (go_at_call 96; (with_reducible refine (shifted_any _ A0 c0 a s (wd_below H0.out ?hb1) D0.out hla2 hs).mono ?_); (case hb1 => first | exact Below.refl _ _ | (first | exact Kn.out | with_reducible exact Aside0.out ‹_›)); rintro e w1 ⟨gu, us, rfl, hgu, hou, hdu, hpu, hb⟩; have qB0 := kn_b (w0 := w) hb; clear hb; have HPu := Aside0.mk hpu; have HOu := Aside0.mk hou; have HDu := Aside0.mk hdu; have HGu := Aside0.mk hgu; clear hpu hou hdu hgu) | (go_at_call 96; (with_reducible refine (shifted_any _ (some ad1) c1 b s (wd_below H1.out ?hb2) D1.out hlb2 hs).mono ?_); (case hb2 => first | exact Kn.out | with_reducible exact Aside0.out ‹_›); rintro e w2 ⟨gv, vs, rfl, hgv, hov, hdv, hpv, hb⟩; have HOu2 := Aside0.mk (HOu.out.below hb); have hcut := cut_w (some ⟨gv, 0, none⟩) vs.length vs.length (b.length : Int) (by omega) (by have := hpv.1; omega) (Nat.le_refl _); have qB1 := kn_b (w0 := w) hb; clear hb; have HPv := Aside0.mk hpv; have HOv := Aside0.mk hov; have HDv := Aside0.mk hdv; have HGv := Aside0.mk hgv; clear hpv hov hdv hgv)))
  have HP0 := Aside0.mk HPu.out.2
  have hlu : us.length = a.length + 1 := HPu.out.1
  have hlv : vs.length = b.length + 1 := HPv.out.1
  have HLU := Aside0.mk hlu
  have HLV := Aside0.mk hlv
  obtain ⟨vt, hvt⟩ : ∃ vt, vt = vs.take b.length := ⟨_, rfl⟩
  have hvl : vt.length = b.length := by rw [hvt, List.length_take, hlv]; omega
  have hvd : Dg vt := hvt ▸ dg_take HDv.out _
  have hvw : Wd w2 (some ⟨gv, 0, none⟩) vt := hvt ▸ wd_take (HOv.out.wd (by omega)) _
  obtain ⟨T, hT⟩ : ∃ T, t = T + 1 := ⟨t - 1, by omega⟩
  have hbT : b.length = T + 2 := by have := HM.out; omega
  have hnw := norm_words (s := s) (T := T) D1.out hbT (by have := HQ.out; rwa [← HTop.out, hT] at this) HDv.out (by omega) HPv.out.2
  rw [← hbT, ← hvt] at hnw
  obtain ⟨hv1, hv2, hv3⟩ := hnw
  have hst := start_lt (s := s) (a := a) (b := b) D0.out (by omega) hv3
  rw [← hv1, ← HP0.out, ← hbT] at hst
  have HVT := Aside0.mk hvt
  have HVL := Aside0.mk hvl
  have HVD := Aside0.mk hvd
  have HVW := Aside0.mk hvw
  have HTT := Aside0.mk hT
  have HBT := Aside0.mk hbT
  have HV1 := Aside0.mk hv1
  have HV2 := Aside0.mk hv2
  have HST := Aside0.mk hst
  have hcap : b.length ≤ us.length := by omega
  have hcap2 : us.length ≤ 35184372088833 := by omega
  have hmk := mk_words ((us.length : Int) - (b.length : Int)) (by omega) (by omega)
  have HEZ := Aside0.mk (show ((us.length : Int) - (b.length : Int)).toNat = us.length - b.length by omega)
  clear hvt hvl hvd hvw hT hbT hv1 hv2 hv3 hst hlu hlv hidx hidx0 hidx1 hcut
  go_wp2
  clear hmk
  have hg1 : gu < w1.heap.size := HOu.out.lt
  have hg2 : w1.heap.size ≤ gv := HGv.out
  have hg3 : gv < w2.heap.size := HOv.out.lt
  have hb2 := qB1.out
  have hne1 : gv ≠ gu := by omega
  have hne2 : gu ≠ w2.heap.size := by omega
  have hne3 : gv ≠ w2.heap.size := by omega
  have hwq : w.heap.size ≤ w2.heap.size := hb2.size
  have HNE := Aside0.mk (show gv ≠ gu ∧ gu ≠ w2.heap.size ∧ gv ≠ w2.heap.size ∧ w.heap.size ≤ w2.heap.size ∧ w.heap.size ≤ gu from ⟨hne1, hne2, hne3, hwq, HGu.out⟩)
  have HN0 := Aside0.mk (show us.length - b.length = a.length + 1 - vt.length by rw [HLU.out, HVL.out])
  clear hg1 hg2 hg3 hb2 hne1 hne2 hne3 hwq
  go_loopw [10] (fun v10 W => ∃ (j : Nat) (ws qs : List Int), v10 = .int .i64 ((j : Int) - 1) ∧ j ≤ us.length - b.length ∧ Aside0 (LS w gu w2.heap.size gv a.length vt (val us) j ws qs W)) (fun v10 _ => (intOf v10 + 1).toNat)
  case atStart => exact ⟨us.length - b.length, us, List.replicate (us.length - b.length) 0, by congr 1; omega, Nat.le_refl _, ⟨by
    have hF := Fill.start w2 (us.length - b.length)
    refine ⟨HOu2.out.below hF.below, HLU.out, HDu.out, hF.own, by rw [hF.len]; exact HN0.out, hF.dg, wd_below HVW.out hF.below, below_step qB1.out hF.below, ?_, by simp [val_replicate], fun l _ => hF.zero l (Nat.zero_le _)⟩
    rw [HLU.out]; exact HST.out⟩⟩
  case round =>
    obtain ⟨j, ws, qs, rfl, hj, HL⟩ := hrel
    cases j with
    | zero =>
      rw [show ((0 : Nat) : Int) - 1 = -1 from rfl]
      obtain ⟨wo, hwo⟩ : ∃ wo : World, wo = wr := ⟨_, rfl⟩
      subst hwo
      have hmk2 := mk_words (b.length : Int) (by omega) (by omega)
      have hw0 : 0 < 2 ^ s := Nat.two_pow_pos s
      go_wp2
      clear hmk2
      go_loopw [147] (fun v147 W => ∃ (i : Nat) (rs : List Int), v147 = .int .i64 i ∧ i ≤ b.length ∧ Aside0 (Fill wo wo.heap.size b.length i rs W) ∧ Aside0 (2 ^ s * val rs = val (ws.take i) + 4294967296 ^ i * (ws.getD i 0 % 2 ^ s))) (fun v147 _ => b.length - (intOf v147).toNat)
      case atStart => exact ⟨0, List.replicate b.length 0, rfl, Nat.zero_le _, ⟨Fill.start _ _⟩, ⟨rest_start (low_zero hs (rest_of HL.out.eq HP0.out HV1.out)) _⟩⟩
      case round =>
        obtain ⟨i, rs, rfl, hi, HF, HR⟩ := hrel
        have hgu : gu < wo.heap.size := HL.out.ou.lt
        have hgx := HL.out.ou.below HF.out.below
        have HGX := Aside0.mk hgx
        clear hgx
        by_cases hlt : i < b.length
        · have lw : ws.length = us.length := HL.out.lu.trans HLU.out.symm
          have hlu := HLU.out
          have n0 := HGX.out.cell i (by omega)
          have n1 := HGX.out.cell (i + 1) (by omega)
          have o0 := HF.out.own.cell i (by rw [HF.out.len]; exact hlt)
          have f0 := HF.out.own.frozen i
          have b0 := dg_get HL.out.du i
          have b1 := dg_get HL.out.du (i + 1)
          have hne4 : gu ≠ wo.heap.size := by omega
          have HT := Aside0.mk (val_take_succ ws i)
          have HRS := Aside0.mk (HF.out.val hlt)
          have r1 : IntKind.i64.wrap ((i : Int) + 1) = (i : Int) + 1 := IntWalk.i64_in _ (by omega)
          have r2 : (0 : Int) ≤ (i : Int) + 1 := by omega
          have r3 : (i : Int) + 1 < (us.length : Int) := by omega
          have r4 : (0 : Int) ≤ (i : Int) := by omega
          have r5 : (i : Int) < (us.length : Int) := by omega
          have r6 : (i : Int) < (b.length : Int) := by omega
          have r7 : ((i : Int) + 1).toNat = i + 1 := by omega
          have r8 : IntKind.u64.wrap (32 - (s : Int)) = 32 - (s : Int) := IntWalk.u64_in _ (by omega)
          have r9 : (32 - (s : Int)).toNat = 32 - s := by omega
          have ra : IntKind.u64.wrap (ws.getD (i + 1) 0) = ws.getD (i + 1) 0 := IntWalk.u64_in _ (by omega)
          have rb := IntKind.wrap_u32 (ws.getD (i + 1) 0 * 2 ^ (32 - s))
          clear lw hlu
          generalize ws.getD i 0 = x at *
          generalize hy : ws.getD (i + 1) 0 = y at *
          have HY := Aside0.mk hy
          clear hy
          have hq0 : 0 ≤ x / 2 ^ s := Int.ediv_nonneg b0.1 (Int.le_of_lt (Int.pow_pos (by decide)))
          have hq1 : x / 2 ^ s < 2 ^ (32 - s) := (Int.ediv_lt_iff_lt_mul (Int.pow_pos (by decide))).2 (by rw [← two_split s (by omega)]; exact b0.2)
          obtain ⟨t1, t2, t3, t4, t5, t6⟩ := shift_or y (x / 2 ^ s) (32 - s) (by omega) b1 hq0 hq1
          have t7 : 0 ≤ x / 2 ^ s + y * 2 ^ (32 - s) % 4294967296 := by omega
          have HD := Aside0.mk (rsh_step (p := 4294967296 ^ i) (y := y) hs HR.out (rfl : x / 2 ^ s + y * 2 ^ (32 - s) % 4294967296 = _))
          go_wp2
          go_region_held3 (fun W => W.cell? ⟨gu, i, none⟩ = some (.int .u32 x) ∧ W.cell? ⟨gu, i + 1, none⟩ = some (.int .u32 y)) (((repeat' apply And.intro) <;> first | with_reducible assumption | (with_reducible refine c_drew ?_; with_reducible assumption) | (with_reducible refine kset ?_ ?_ <;> first | with_reducible assumption | exact hne4 | (with_reducible refine c_drew ?_; with_reducible assumption)) | (with_reducible refine c_drew (kset ?_ ?_) <;> first | with_reducible assumption | exact hne4 | (with_reducible refine c_drew ?_; with_reducible assumption)))) (fail)
          go_wp2
          go_roundw
          case rel => exact ⟨i + 1, rs.set i (x / 2 ^ s + y * 2 ^ (32 - s) % 4294967296), by go_num, by omega, ⟨(HF.out.put _ ⟨t7, t6⟩).drew⟩, ⟨by rw [HRS.out, HT.out, HY.out, Int.pow_succ]; exact HD.out⟩⟩
          case measure => simp [intOf]; omega
        · have HI := Aside0.mk (show i = b.length by omega)
          obtain rfl := HI.out
          have hfin := rest_end (vb := val b) HL.out.du HR.out (by rw [← HV1.out]; have := HL.out.lt; simpa using this) (by
            have := val_lt HVD.out
            rw [HVL.out, HV1.out] at this; exact this) (rest_of HL.out.eq HP0.out HV1.out)
          have HFN := Aside0.mk hfin
          clear hfin
          go_wp2
          go_ret2
          exact ⟨w2.heap.size, qs, wo.heap.size, rs, by rw [HL.out.lq, ← HN0.out, HF.out.len]; rfl, ⟨HL.out.oq.below HF.out.below, below_step HL.out.bel HF.out.below, HNE.out.2.2.2.1, by rw [HL.out.lq, HVL.out], HL.out.dq⟩, ⟨HF.out.own, below_step HL.out.bel HF.out.below, HL.out.bel.size, HF.out.len, HF.out.dg⟩, HFN.out.1, HFN.out.2⟩
    | succ k =>
      rw [show ((k + 1 : Nat) : Int) - 1 = (k : Int) by omega]
      have hH := heads_of HL.out.du HVD.out (by rw [HVL.out]; exact HBT.out) HL.out.lt HV2.out
      have lw : ws.length = us.length := HL.out.lu.trans HLU.out.symm
      have hbt := HBT.out
      have n2 := HL.out.ou.cell (k + T + 2) (by omega)
      have n1 := HL.out.ou.cell (k + T + 1) (by omega)
      have n0 := HL.out.ou.cell (k + T) (by omega)
      have m1 := wd_at0 HL.out.rv (T + 1) (by rw [HVL.out]; omega)
      have m0 := wd_at0 HL.out.rv T (by rw [HVL.out]; omega)
      obtain ⟨N, hN⟩ : ∃ N, N = k + T := ⟨_, rfl⟩
      rw [← hN] at hH n2 n1 n0
      have r1 : (k : Int) + (b.length : Int) = (N : Int) + 2 := by omega
      have r2 : (N : Int) + 2 - 1 = (N : Int) + 1 := by omega
      have r3 : (b.length : Int) - 1 = (T : Int) + 1 := by omega
      have r4 : (b.length : Int) - 2 = (T : Int) := by omega
      have r5 : ((N : Int) + 2).toNat = N + 2 := by omega
      have r6 : ((N : Int) + 1).toNat = N + 1 := by omega
      have r7 : ((T : Int) + 1).toNat = T + 1 := by omega
      have s1 : IntKind.i64.wrap ((N : Int) + 2) = (N : Int) + 2 := IntWalk.i64_in _ (by omega)
      have s2 : IntKind.i64.wrap ((N : Int) + 1) = (N : Int) + 1 := IntWalk.i64_in _ (by omega)
      have s3 : IntKind.i64.wrap (N : Int) = (N : Int) := IntWalk.i64_in _ (by omega)
      have s4 : IntKind.i64.wrap ((T : Int) + 1) = (T : Int) + 1 := IntWalk.i64_in _ (by omega)
      have s5 : IntKind.i64.wrap (T : Int) = (T : Int) := IntWalk.i64_in _ (by omega)
      have t1 : (0 : Int) ≤ (N : Int) + 2 := by omega
      have t2 : (N : Int) + 2 < (us.length : Int) := by omega
      have t3 : (0 : Int) ≤ (N : Int) + 1 := by omega
      have t4 : (N : Int) + 1 < (us.length : Int) := by omega
      have t5 : (0 : Int) ≤ (N : Int) := by omega
      have t6 : (N : Int) < (us.length : Int) := by omega
      have t7 : (0 : Int) ≤ (T : Int) + 1 := by omega
      have t8 : (T : Int) + 1 < (b.length : Int) := by omega
      have t9 : (0 : Int) ≤ (T : Int) := by omega
      have ta : (T : Int) < (b.length : Int) := by omega
      have HNK := Aside0.mk hN
      have HLW := Aside0.mk lw
      clear hN lw hbt
      generalize ws.getD (N + 2) 0 = u2 at *
      generalize ws.getD (N + 1) 0 = u1 at *
      generalize ws.getD N 0 = u0 at *
      generalize vt.getD (T + 1) 0 = v1 at *
      generalize vt.getD T 0 = v2 at *
      have HH := Aside0.mk hH
      obtain ⟨b20, b21⟩ := hH.hu2
      obtain ⟨b10, b11⟩ := hH.hu1
      obtain ⟨b00, b01⟩ := hH.hu0
      obtain ⟨c10, c11⟩ := hH.hv1
      obtain ⟨c20, c21⟩ := hH.hv2
      have o1 := or_pack u1 u2 ⟨b10, b11⟩ ⟨b20, b21⟩
      have o2 : 0 ≤ u2 * 4294967296 + u1 := by omega
      have o3 : u2 * 4294967296 + u1 < 18446744073709551616 := by omega
      clear hH
      go_wp2
      go_quiet (fail)
      have d1 : IntKind.u64.wrap v1 = v1 := IntWalk.u64_in _ (by omega)
      have d2 := IntWalk.u64_quo (u2 * 4294967296 + u1) v1 (by omega)
      have d3 := IntWalk.rem_in (u2 * 4294967296 + u1) v1 o2
      have e0 : 0 ≤ (u2 * 4294967296 + u1) / v1 := Int.ediv_nonneg o2 (by omega)
      have e1 : (u2 * 4294967296 + u1) / v1 ≤ 8589934592 := by
        have : (u2 * 4294967296 + u1) / v1 < 8589934593 := (Int.ediv_lt_iff_lt_mul (by omega)).2 (by omega)
        omega
      have e2 : 0 ≤ (u2 * 4294967296 + u1) % v1 := Int.emod_nonneg _ (by omega)
      have e3 : (u2 * 4294967296 + u1) % v1 < v1 := Int.emod_lt_of_pos _ (by omega)
      have d4 : IntKind.u64.wrap ((u2 * 4294967296 + u1) % v1) = (u2 * 4294967296 + u1) % v1 := IntWalk.u64_in _ (by omega)
      have d5 : (v1 == 0) = false := by rw [beq_eq_false_iff_ne]; omega
      have d6 : ¬ v1 = 0 := by omega
      have HG := Aside0.mk HH.out.start
      go_wp2
      go_quiet (fail)
      clear d1 d2 d3 d4 d5 d6
      generalize (u2 * 4294967296 + u1) / v1 = g0 at *
      generalize (u2 * 4294967296 + u1) % v1 = r0 at *
      go_upto_block 2 with (fail)
      go_cut [12] (fun v12 W => ∃ g : Int, v12 = .int .u64 g ∧ Aside0 (Near (val ws) (val vt * 4294967296 ^ k) g) ∧ Aside0 (Drawn0 wr W))
      case first =>
        go_wp2
        go_loopw [12, 13] (fun v12 v13 W => ∃ g r : Int, v12 = .int .u64 g ∧ v13 = .int .u64 r ∧ 0 ≤ g ∧ g ≤ 8589934592 ∧ 0 ≤ r ∧ r < 4294967296 ∧ Aside0 (Guess (val ws) (val vt * 4294967296 ^ k) v1 v2 u2 u1 u0 (4294967296 ^ N) g r) ∧ Aside0 (Drawn0 wr W)) (fun _ v13 _ => (4294967296 - intOf v13).toNat)
        case atStart => exact ⟨g0, r0, rfl, rfl, e0, e1, e2, by omega, HG, ⟨dr2 _ _ _⟩⟩
        case round =>
          clear e0 e1 e2 e3 HG
          obtain ⟨g, r, rfl, rfl, g0', g1', r0', r1', HGu2, HWn⟩ := hrel
          obtain ⟨⟨nw, rfl⟩⟩ := HWn.out
          have o4 := or_pack u0 r ⟨b00, b01⟩ ⟨r0', r1'⟩
          have o5 : 0 ≤ r * 4294967296 + u0 := by omega
          have o6 : r * 4294967296 + u0 < 18446744073709551616 := by omega
          by_cases hA : 4294967296 ≤ g
          · have hAd : decide (4294967296 ≤ g) = true := decide_eq_true hA
            have hg1 : 1 ≤ g := by omega
            have HN1 := Aside0.mk (HGu2.out.less HH.out (.inl hA))
            by_cases hb : 4294967296 ≤ r + v1
            · have hbd : decide (4294967296 ≤ r + v1) = true := decide_eq_true hb
              have HNr := Aside0.mk (HN1.out.breaks HH.out hb)
              go_wp2
              go_quiet (fail)
              go_wp2
              try (go_quiet (fail); go_wp2)
              go_meet
              exact ⟨g - 1, rfl, HNr, ⟨by first | exact dr1 _ _ | exact dr2 _ _ _ | exact dr3 _ _ _ _⟩⟩
            · have hbd : decide (4294967296 ≤ r + v1) = false := decide_eq_false hb
              go_wp2
              go_quiet (fail)
              go_wp2
              try (go_quiet (fail); go_wp2)
              go_roundw
              case rel => exact ⟨g - 1, r + v1, rfl, rfl, by omega, by omega, by omega, by omega, HN1, ⟨by first | exact dr1 _ _ | exact dr2 _ _ _ | exact dr3 _ _ _ _⟩⟩
              case measure => simp [intOf]; omega
          · have hAd : decide (4294967296 ≤ g) = false := decide_eq_false hA
            obtain ⟨m2, m3⟩ := mul_bound (x := g) (y := v2) ⟨g0', by omega⟩ ⟨c20, c21⟩
            have d7 : IntKind.u64.wrap (g * v2) = g * v2 := IntWalk.u64_in _ (by omega)
            by_cases hB : r * 4294967296 + u0 < g * v2
            · have hBd : decide (r * 4294967296 + u0 < g * v2) = true := decide_eq_true hB
              have hg1 : 1 ≤ g := by 
                rcases Int.lt_or_le g 1 with c | c
                · have : g = 0 := by omega
                  subst this; omega
                · exact c
              have HN1 := Aside0.mk (HGu2.out.less HH.out (.inr hB))
              by_cases hb : 4294967296 ≤ r + v1
              · have hbd : decide (4294967296 ≤ r + v1) = true := decide_eq_true hb
                have HNr := Aside0.mk (HN1.out.breaks HH.out hb)
                go_wp2
                go_quiet (fail)
                go_wp2
                try (go_quiet (fail); go_wp2)
                go_meet
                exact ⟨g - 1, rfl, HNr, ⟨by first | exact dr1 _ _ | exact dr2 _ _ _ | exact dr3 _ _ _ _⟩⟩
              · have hbd : decide (4294967296 ≤ r + v1) = false := decide_eq_false hb
                go_wp2
                go_quiet (fail)
                go_wp2
                try (go_quiet (fail); go_wp2)
                go_roundw
                case rel => exact ⟨g - 1, r + v1, rfl, rfl, by omega, by omega, by omega, by omega, HN1, ⟨by first | exact dr1 _ _ | exact dr2 _ _ _ | exact dr3 _ _ _ _⟩⟩
                case measure => simp [intOf]; omega
            · have hBd : decide (r * 4294967296 + u0 < g * v2) = false := decide_eq_false hB
              have HNr := Aside0.mk (HGu2.out.stands HH.out (by omega) (by omega))
              go_wp2
              go_quiet (fail)
              go_wp2
              go_meet
              exact ⟨g, rfl, HNr, ⟨by first | exact dr1 _ _ | exact dr2 _ _ _ | exact dr3 _ _ _ _⟩⟩
      case rest =>
        obtain ⟨g, rfl, HNr, HWn⟩ := hcut
        have HL2 := Aside0.mk (HL.out.drawn HWn.out)
        clear HWn HL e0 e1 e2 e3 HG o1 o2 o3 n2 n1 n0 m1 m0
        have hk4 : N + 2 + 1 - k = b.length + 1 := by have := HNK.out; have := HBT.out; omega
        have hkb : k + b.length + 1 ≤ us.length := by omega
        have hVp : 0 < val vt := by
          have h1 := HL2.out.lt
          have h2 := val_nonneg HL2.out.du
          have hb := bpos (k + 1)
          rcases Int.lt_or_le 0 (val vt) with c | c
          · exact c
          · have := Int.mul_le_mul_of_nonneg_left c (Int.le_of_lt hb)
            rw [Int.mul_zero] at this; omega
        have d8 : g % 4294967296 = g := Int.emod_eq_of_lt HNr.out.g0 HNr.out.g1
        have hg0 := HNr.out.g0
        have hg1 := HNr.out.g1
        have hqk : k < us.length - b.length := by omega
        have hqk0 : (k : Int) < ((us.length - b.length : Nat) : Int) := by omega
        go_wp2_with (first
          | (go_at_call 97; (with_reducible refine (takeAway_n _ gu k b.length ws _ (some ⟨gv, 0, none⟩) vs.length vt g HVL.out HL2.out.ou HL2.out.du ?hk1 ?hk2 HL2.out.rv HVD.out ?hk3 HNr.out.g0 HNr.out.g1).mono ?_); (case hk1 => have := HLW.out; omega); (case hk2 => have := HLW.out; omega); (case hk3 => intro ad ha _; cases ha; exact HNE.out.1); rintro e w4 ⟨ys, bo, rfl, hb0, hb1, hys, hwin⟩; have HYS := Aside0.mk hys; have HWIN := Aside0.mk hwin; clear hys hwin; have HOQ := Aside0.mk (HL2.out.oq.oth HWIN.out (Ne.symm HNE.out.2.1)); have cq := HOQ.out.cell k (by rw [HL2.out.lq, ← HN0.out]; exact hqk); have fq := HOQ.out.frozen k; have HHI := Aside0.mk (win_hi HWIN.out HL2.out.du HL2.out.lt HVD.out HVL.out); (rcases (show bo = 0 ∨ bo = 1 by omega) with rfl | rfl); rotate_left; have hgp := borrow_pos (val_nonneg HL2.out.du) hg0 HYS.out HHI.out; have d9 : (g - 1) % 4294967296 = g - 1 := Int.emod_eq_of_lt (by omega) (by omega); rotate_left)
          | (go_at_call 98; (with_reducible refine (putBack_n _ gu k b.length ys _ (some ⟨gv, 0, none⟩) vs.length vt HVL.out HWIN.out.own HWIN.out.dg ?hk4 ?hk5 (HWIN.out.rd _ _ HL2.out.rv ?hk6) HVD.out ?hk7).mono ?_); (case hk4 => have := HLW.out; have := HWIN.out.len; omega); (case hk5 => have := HLW.out; have := HWIN.out.len; omega); (case hk6 => intro ad ha _; cases ha; exact HNE.out.1); (case hk7 => intro ad ha _; cases ha; exact HNE.out.1); rintro e w5 ⟨zs, dd, rfl, hd0, hd1, hzs, hwin⟩; have HZS := Aside0.mk hzs; have HWZ := Aside0.mk hwin; clear hzs hwin; have HOQ2 := Aside0.mk (HOQ.out.oth HWZ.out (Ne.symm HNE.out.2.1)); have cq2 := HOQ2.out.cell k (by rw [HL2.out.lq, ← HN0.out]; exact hqk); have fq2 := HOQ2.out.frozen k))
        · go_roundw
          case rel =>
            obtain ⟨u1', u2'⟩ := digit_ok HNr.out hVp (val_nonneg HWIN.out.dg) HYS.out
            exact ⟨k, ys, qs.set k g, rfl, by omega, ⟨HL2.out.next g ⟨hg0, hg1⟩ u1' u2' HWIN.out.own HWIN.out.len HWIN.out.dg HOQ.out (HWIN.out.rd _ _ HL2.out.rv (fun ad ha _ => by cases ha; exact HNE.out.1)) (HWIN.out.bel w HL2.out.bel HNE.out.2.2.2.2) HNE.out.2.1 HNE.out.2.2.1 HNE.out.2.2.2.1 (by rw [← HN0.out]; exact hqk)⟩⟩
          case measure => simp [intOf]
        · go_roundw
          case rel =>
            have hz := lo_lt HWZ.out.dg (fun j hj => (HWZ.out.out j hj).trans (hi_zero HWIN.out.dg HHI.out j hj))
            obtain ⟨u1', u2', u3', u4'⟩ := digit_back HNr.out hVp (val_nonneg HL2.out.du) HYS.out HHI.out HZS.out hd0 hd1 hz
            exact ⟨k, zs, qs.set k (g - 1), rfl, by omega, ⟨HL2.out.next (g - 1) ⟨u4', by omega⟩ u1' u2' HWZ.out.own (HWZ.out.len.trans HWIN.out.len) HWZ.out.dg HOQ2.out (HWZ.out.rd _ _ (HWIN.out.rd _ _ HL2.out.rv (fun ad ha _ => by cases ha; exact HNE.out.1)) (fun ad ha _ => by cases ha; exact HNE.out.1)) (HWZ.out.bel w (HWIN.out.bel w HL2.out.bel HNE.out.2.2.2.2) HNE.out.2.2.2.2) HNE.out.2.1 HNE.out.2.2.1 HNE.out.2.2.2.1 (by rw [← HN0.out]; exact hqk)⟩⟩
          case measure => simp [intOf]
end Go.Proofs.Ytlaidcoickeihaa.Nb
namespace Go.Proofs.Ytlaidcoickeihaa.Nb
open Go.RowKit Go.Proofs.Ytlaidcoickeihaa.Wd.PrintWords Go.Proofs.Ytlaidcoickeihaa.Wd.PrintLast Go.Proofs.Ytlaidcoickeihaa.Wd.PrintMore Go.Proofs.Ytlaidcoickeihaa.Big
set_option synthInstance.maxSize 2000
set_option synthInstance.maxHeartbeats 400000
def QuoPost (w : World) (P : Nat → Prop) (q r : Int) (e : Ending) (w' : World) : Prop :=
  ∃ v u, e = .returned (.tuple #[v, u]) ∧ BI w' (fun k => w.heap.size ≤ k) v q ∧ BI w' (fun k => P k ∨ w.heap.size ≤ k) u r ∧ Below w.heap.size w w'
theorem BI.of {w : World} {P : Nat → Prop} {s : Bool} {m c : Nat} {A : Option Addr} (h : Wd w A (dig m)) (hc : (dig m).length ≤ c) (hP : ∀ ad, A = some ad → 0 < (dig m).length → P ad.block) (hs : s = (s && decide (0 < m))) : BI w P (.agg #[.bool s, .slice A (dig m).length c]) (sg s m) := by
  refine ⟨A, c, ?_, by rw [sg_abs]; exact hc, by rw [sg_abs]; exact h, fun ad ha hl => hP ad ha (by rwa [sg_abs] at hl)⟩
  rw [sg_abs, sg_neg, ← hs]
set_option maxHeartbeats 4000000 in
set_option maxRecDepth 100000 in
theorem quo_lt (w : World) (P : Nat → Prop) (s t : Bool) (m n : Nat) (A0 A1 : Option Addr) (c0 c1 : Nat) (h0 : Wd w A0 (dig m)) (h1 : Wd w A1 (dig n)) (hc0 : (dig m).length ≤ c0) (hP : ∀ ad, A0 = some ad → 0 < (dig m).length → P ad.block) (hs : s = (s && decide (0 < m))) (hlt : m < n) :
    Calls Try.prog 72 #[.agg #[.bool s, .slice A0 (dig m).length c0], .agg #[.bool t, .slice A1 (dig n).length c1]] w (QuoPost w P 0 (sg s m)) := by
  have H0 := Aside0.mk h0
  have H1 := Aside0.mk h1
  have HR := Aside0.mk (show sizeI (dig m) (dig n) = -1 by rw [sizeI_dig]; unfold cmpI; rw [if_pos (by omega)])
  have HP := Aside0.mk hP
  have HS := Aside0.mk hs
  clear h0 h1 hP hs
  go_enter Try.func72, Try.ntmps72
  go_wp2_with (go_at_call 74; (with_reducible refine (sizes_is _ A0 A1 c0 c1 (dig m) (dig n) _ (wd_below H0.out ?hb1) (wd_below H1.out ?hb1) (dig_dg m) (dig_dg n) HR.out).mono ?_); (case hb1 => first | exact Kn.out | with_reducible exact Aside0.out ‹_›); rintro e w1 ⟨rfl, hb⟩; have qB0 := kn_b (w0 := w) hb; have qC0 : Kn (CL _ [⟨w.heap.size, 0, none⟩, ⟨w.heap.size, 1, none⟩, ⟨w.heap.size + 1, 0, none⟩, ⟨w.heap.size + 1, 1, none⟩, ⟨w.heap.size + 1 + 1, 0, none⟩, ⟨w.heap.size + 1 + 1, 1, none⟩, ⟨w.heap.size + 1 + 1 + 1, 0, none⟩, ⟨w.heap.size + 1 + 1 + 1, 1, none⟩] [.bool s, .slice A0 (dig m).length c0, .bool t, .slice A1 (dig n).length c1, .bool false, .slice none 0 0, .bool false, .slice none 0 0]) := kn_c hb; obtain ⟨q0_0, q0_1, q0_2, q0_3, q0_4, q0_5, q0_6, q0_7, -⟩ := qC0.out; have qF0 : Kn (FZ _ [⟨w.heap.size + 1 + 1, 0, none⟩, ⟨w.heap.size + 1 + 1, 1, none⟩, ⟨w.heap.size + 1 + 1 + 1, 0, none⟩, ⟨w.heap.size + 1 + 1 + 1, 1, none⟩]) := kn_f hb; obtain ⟨⟨-, f0_0⟩, ⟨-, f0_1⟩, ⟨-, f0_2⟩, ⟨-, f0_3⟩, -⟩ := qF0.out; clear hb)
  go_region_held3 (fun W => W.cell? ⟨w.heap.size, 0, none⟩ = some (.bool s) ∧ W.cell? ⟨w.heap.size, 1, none⟩ = some (.slice A0 (dig m).length c0) ∧ W.cell? ⟨w.heap.size + 1, 0, none⟩ = some (.bool t) ∧ W.cell? ⟨w.heap.size + 1, 1, none⟩ = some (.slice A1 (dig n).length c1) ∧ Kn (Below w.heap.size w W)) (((repeat' apply And.intro) <;> first | with_reducible assumption | exact Kn.out | infer_instance | ((try (with_reducible refine c_drew ?_)); (repeat' (first | with_reducible refine kset Kn.out ?_ | with_reducible refine kset ‹_› ?_ | with_reducible refine c_low' ?_)); with_reducible assumption))) (fail)
  go_wp2
  have HBF := Aside0.mk (below_set (below_set (below_set (below_set qB0.out (le_two w.heap.size) (j := 0) (v := .bool false)) (le_two _) (j := 1) (v := .slice none 0 0)) (le_three _) (j := 0) (v := .bool s)) (le_three _) (j := 1) (v := .slice A0 (dig m).length c0))
  refine bodyPost_ret (v := .tuple #[.agg #[.bool false, .slice none 0 0], .agg #[.bool s, .slice A0 (dig m).length c0]]) (by simp [results, Try.results72, go_sem, q0_4, q0_5, q0_6, q0_7]) rfl ⟨_, _, rfl, BI.zero _ _, ?_, ?_⟩
  · exact BI.of (wd_below H0.out (below_drew HBF.out)) hc0 (fun ad ha hl => .inl (HP.out ad ha hl)) HS.out
  · exact below_drew HBF.out
theorem dig_one {n : Nat} (h : (dig n).length = 1) : dig n = [(n : Int)] ∧ 0 < n ∧ n < 4294967296 := by
  have hl := dig_lt n
  rw [h, Nat.pow_one] at hl
  have h0 : n ≠ 0 := by rintro rfl; rw [dig_zero] at h; simp at h
  have hd : n / 4294967296 = 0 := Nat.div_eq_of_lt hl
  refine ⟨?_, by omega, hl⟩
  rw [dig_pos h0, hd, dig_zero, Nat.mod_eq_of_lt hl]
theorem made_one (w : World) (g : Nat) (s : Bool) (r : Int) (ho : Own w g [r]) (hr : 0 ≤ r ∧ r < 4294967296) :
    Calls Try.prog 68 #[.bool s, .slice (some ⟨g, 0, none⟩) 1 1] w fun e w' => e = .returned (.agg #[.bool (s && decide (0 < (dig r.toNat).length)), .slice (some ⟨g, 0, none⟩) (dig r.toNat).length 1]) ∧ Below w.heap.size w w' := by
  have hd : Dg [r] := fun x hx => by simp at hx; rw [hx]; exact hr
  have := made_any w (some ⟨g, 0, none⟩) 1 s [r] (ho.wd (by simp)) hd (Nat.le_refl _)
  have hv : val [r] = r := by simp [val]
  rw [hv] at this
  exact this
theorem quo_div {m n : Nat} {q r : Int} (hn : 0 < n) (h : (m : Int) = q * n + r) (h0 : 0 ≤ r) (h1 : r < n) : q = ((m / n : Nat) : Int) ∧ r = ((m % n : Nat) : Int) := by
  have e := Int.mul_ediv_add_emod (m : Int) n
  have h2 : (m : Int) / n = q := by
    rw [h, Int.mul_comm]; rw [Int.mul_add_ediv_left _ _ (by omega), Int.ediv_eq_zero_of_lt h0 h1]; omega
  have h3 : (m : Int) % n = r := by
    rw [h, Int.mul_comm, Int.mul_add_emod_self_left]; exact Int.emod_eq_of_lt h0 h1
  exact ⟨by rw [← h2]; exact (Int.natCast_ediv _ _).symm ▸ rfl, by rw [← h3]; rfl⟩
theorem BI.fin4 {W : World} {w : World} {v : Value} {z : Int} {a b : Nat} (h : BI W (fun k => w.heap.size + 1 + 1 + 1 + 1 ≤ k) v z) (ha : a < w.heap.size + 1 + 1 + 1 + 1) (hb : b < w.heap.size + 1 + 1 + 1 + 1) (u0 u1 u2 u3 : Value) :
    BI ((((W.setCell ⟨a, 0, none⟩ u0).setCell ⟨a, 1, none⟩ u1).setCell ⟨b, 0, none⟩ u2).setCell ⟨b, 1, none⟩ u3) (fun k => w.heap.size ≤ k) v z :=
  ((((h.set ha u0).set ha u1).set hb u2).set hb u3).mono fun k hk => by omega
theorem BI.drew {W : World} {ok : Nat → Prop} {v : Value} {z : Int} (h : BI W ok v z) : BI W.drew ok v z := h.below (below_drew (Below.refl _ _))
theorem made_BI1 {w' : World} {B g : Nat} {s : Bool} {r : Int} {n : Nat} {z : Int} (ho : Own w' g [r]) (hr : 0 ≤ r ∧ r < 4294967296) (hv : r = n) (hg : B ≤ g) (hz : z = sg s n) :
    BI w' (fun k => B ≤ k) (.agg #[.bool (s && decide (0 < (dig r.toNat).length)), .slice (some ⟨g, 0, none⟩) (dig r.toNat).length 1]) z := by
  have hd : Dg [r] := fun x hx => by simp at hx; rw [hx]; exact hr
  have e : val [r] = r := by simp [val]
  have := made_BI (s := s) (n := n) ho hd (e.trans hv) (by simp) hg hz
  rw [e] at this
  exact this
set_option maxHeartbeats 4000000 in
set_option maxRecDepth 100000 in
theorem quo_one (w : World) (P : Nat → Prop) (s t : Bool) (m n : Nat) (A0 A1 : Option Addr) (c0 c1 : Nat) (h0 : Wd w A0 (dig m)) (h1 : Wd w A1 (dig n)) (hm : (dig m).length ≤ 35184372088832) (hlt : n ≤ m) (hn : (dig n).length = 1) :
    Calls Try.prog 72 #[.agg #[.bool s, .slice A0 (dig m).length c0], .agg #[.bool t, .slice A1 (dig n).length c1]] w (QuoPost w P (sg (s != t) (m / n)) (sg s (m % n))) := by
  obtain ⟨hd1, hd2, hd3⟩ := dig_one hn
  obtain ⟨r0, hr0, hr1⟩ : ∃ r0, sizeI (dig m) (dig n) = r0 ∧ 0 ≤ r0 := ⟨_, rfl, by rw [sizeI_dig]; unfold cmpI; rw [if_neg (by omega)]; split <;> omega⟩
  obtain ⟨ad1, e1, x1⟩ := wd_at h1 0 (by omega)
  subst e1
  have x1' : w.cell? ad1 = some (.int .u32 (n : Int)) := by
    rw [hd1] at x1; simpa [Addr.add] using x1
  have H0 := Aside0.mk h0
  have H1 := Aside0.mk h1
  have HR := Aside0.mk hr0
  have HN := Aside0.mk hn
  have hr2 : decide (r0 < 0) = false := decide_eq_false (by omega)
  have hm2 : (dig m).length ≤ 70368744177000 := by omega
  have hnb : (((dig n).length : Int) == 1) = true := by rw [hn]; rfl
  have hn0 : (0 : Int) < (n : Int) := by omega
  have hn1 : (n : Int) < 4294967296 := by omega
  have hl0 : (0 : Int) < ((dig n).length : Int) := by rw [hn]; decide
  have hl1 : 0 < (dig n).length := by rw [hn]; decide
  have hl2 : dig n ≠ [] := fun h => by rw [h] at hn; cases hn
  have HD3 := Aside0.mk hd3
  have HD2 := Aside0.mk hd2
  have HM1 := Aside0.mk hm
  have HLE := Aside0.mk hlt
  clear h0 h1 x1 hr0 hr1 hn hd1 hlt hd3 hd2 hm
  go_enter Try.func72, Try.ntmps72
  go_wp2_with (go_at_call 74; (with_reducible refine (sizes_is _ A0 (some ad1) c0 c1 (dig m) (dig n) _ (wd_below H0.out ?hb1) (wd_below H1.out ?hb1) (dig_dg m) (dig_dg n) HR.out).mono ?_); (case hb1 => first | exact Kn.out | with_reducible exact Aside0.out ‹_›); rintro e w1 ⟨rfl, hb⟩; have qB0 := kn_b (w0 := w) hb; have qC0 : Kn (CL _ [⟨w.heap.size, 0, none⟩, ⟨w.heap.size, 1, none⟩, ⟨w.heap.size + 1, 0, none⟩, ⟨w.heap.size + 1, 1, none⟩, ⟨w.heap.size + 1 + 1, 0, none⟩, ⟨w.heap.size + 1 + 1, 1, none⟩, ⟨w.heap.size + 1 + 1 + 1, 0, none⟩, ⟨w.heap.size + 1 + 1 + 1, 1, none⟩] [.bool s, .slice A0 (dig m).length c0, .bool t, .slice (some ad1) (dig n).length c1, .bool false, .slice none 0 0, .bool false, .slice none 0 0]) := kn_c hb; obtain ⟨q0_0, q0_1, q0_2, q0_3, q0_4, q0_5, q0_6, q0_7, -⟩ := qC0.out; have qF0 : Kn (FZ _ [⟨w.heap.size + 1 + 1, 0, none⟩, ⟨w.heap.size + 1 + 1, 1, none⟩, ⟨w.heap.size + 1 + 1 + 1, 0, none⟩, ⟨w.heap.size + 1 + 1 + 1, 1, none⟩]) := kn_f hb; obtain ⟨⟨-, f0_0⟩, ⟨-, f0_1⟩, ⟨-, f0_2⟩, ⟨-, f0_3⟩, -⟩ := qF0.out; have x0_0 := kc (p := ad1) (v := .int .u32 (n : Int)) hb (by first | with_reducible assumption | (with_reducible refine c_low' ?_; with_reducible assumption) | (with_reducible refine c_drew ?_; with_reducible assumption) | (with_reducible refine c_drew (c_low' ?_); with_reducible assumption) | (with_reducible refine c_low' (c_low' (c_low' (c_low' (?_)))); with_reducible assumption) | (with_reducible refine c_drew (c_low' (c_low' (c_low' (c_low' (?_))))); with_reducible assumption)); clear hb)
  have HM2 := Aside0.mk hm2
  have HN1 := Aside0.mk hn1
  clear hm2 hn1 hnb
  obtain ⟨u, hu1⟩ : ∃ u : Bool, (s != t) = u := ⟨_, rfl⟩
  have HU := Aside0.mk hu1
  have hu2 : (!(s == t)) = u := hu1
  go_region_held3 (fun W => W.cell? ⟨w.heap.size, 0, none⟩ = some (.bool s) ∧ W.cell? ⟨w.heap.size, 1, none⟩ = some (.slice A0 (dig m).length c0) ∧ W.cell? ⟨w.heap.size + 1, 0, none⟩ = some (.bool t) ∧ W.cell? ⟨w.heap.size + 1, 1, none⟩ = some (.slice (some ad1) (dig n).length c1) ∧ W.cell? (ad1) = some (.int .u32 (n : Int)) ∧ Kn (Below w.heap.size w W)) (((repeat' apply And.intro) <;> first | with_reducible assumption | exact Kn.out | infer_instance | ((try (with_reducible refine c_drew ?_)); (repeat' (first | with_reducible refine kset Kn.out ?_ | with_reducible refine kset ‹_› ?_ | with_reducible refine c_low' ?_)); with_reducible assumption))) ((first | (go_at_call 84; (with_reducible refine (short_any _ A0 c0 (dig m) (n : Int) (wd_below H0.out ?hb2) (dig_dg m) HM2.out hn0 HN1.out).mono ?_); (case hb2 => first | exact Kn.out | with_reducible exact Aside0.out ‹_›); rintro e w2 ⟨g, xs, r, rfl, hq0, hq1, hq2, hrow⟩; have hb := hrow.below; have HRow := Aside0.mk hrow; have HQ := Aside0.mk hq2; clear hq2 hrow; have qB1 := kn_b (w0 := w) hb; have qC1 : Kn (CL _ [⟨w.heap.size, 0, none⟩, ⟨w.heap.size, 1, none⟩, ⟨w.heap.size + 1, 0, none⟩, ⟨w.heap.size + 1, 1, none⟩, ⟨w.heap.size + 1 + 1, 0, none⟩, ⟨w.heap.size + 1 + 1, 1, none⟩, ⟨w.heap.size + 1 + 1 + 1, 0, none⟩, ⟨w.heap.size + 1 + 1 + 1, 1, none⟩] [.bool s, .slice A0 (dig m).length c0, .bool t, .slice (some ad1) (dig n).length c1, .bool false, .slice none 0 0, .bool false, .slice none 0 0]) := kn_c hb; obtain ⟨q1_0, q1_1, q1_2, q1_3, q1_4, q1_5, q1_6, q1_7, -⟩ := qC1.out; have qF1 : Kn (FZ _ [⟨w.heap.size + 1 + 1, 0, none⟩, ⟨w.heap.size + 1 + 1, 1, none⟩, ⟨w.heap.size + 1 + 1 + 1, 0, none⟩, ⟨w.heap.size + 1 + 1 + 1, 1, none⟩]) := kn_f hb; obtain ⟨⟨-, f1_0⟩, ⟨-, f1_1⟩, ⟨-, f1_2⟩, ⟨-, f1_3⟩, -⟩ := qF1.out; have x1_0 := kc (p := ad1) (v := .int .u32 (n : Int)) hb (by first | with_reducible assumption | (with_reducible refine c_low' ?_; with_reducible assumption) | (with_reducible refine c_drew ?_; with_reducible assumption) | (with_reducible refine c_drew (c_low' ?_); with_reducible assumption) | (with_reducible refine c_low' (c_low' (c_low' (c_low' (?_)))); with_reducible assumption) | (with_reducible refine c_drew (c_low' (c_low' (c_low' (c_low' (?_))))); with_reducible assumption)); clear hb)))
  have hl := HRow.out.len
  have hxl := Aside0.mk (show xs.length ≤ 9223372036854775807 by have := HM1.out; omega)
  have hr4 := Aside0.mk (show 0 ≤ r ∧ r < 4294967296 from ⟨hq0, by have := HN1.out; omega⟩)
  clear hl x0_0 x1_0
  go_wp2
  go_region_held3 (fun W => W.cell? ⟨w.heap.size, 0, none⟩ = some (.bool s) ∧ W.cell? ⟨w.heap.size, 1, none⟩ = some (.slice A0 (dig m).length c0) ∧ W.cell? ⟨w.heap.size + 1, 0, none⟩ = some (.bool t) ∧ W.cell? ⟨w.heap.size + 1, 1, none⟩ = some (.slice (some ad1) (dig n).length c1) ∧ Kn (Below w.heap.size w W)) (((repeat' apply And.intro) <;> first | with_reducible assumption | exact Kn.out | infer_instance | ((try (with_reducible refine c_drew ?_)); (repeat' (first | with_reducible refine kset Kn.out ?_ | with_reducible refine kset ‹_› ?_ | with_reducible refine c_low' ?_)); with_reducible assumption))) ((first | (go_at_call 68; (with_reducible refine (made_any _ (some ⟨g, 0, none⟩) xs.length u xs ?hw1 HRow.out.dg (Nat.le_refl _)).mono ?_); (case hw1 => first | exact HRow.out.own.wd hxl.out | exact wd_below (HRow.out.own.wd hxl.out) (below_drew (below_alloc (Below.refl _ w2) _))); rintro e w3 ⟨rfl, hb⟩; have w23 := Aside0.mk hb.size; (first | (have HOr := Aside0.mk (Own.below (W := (w2.alloc (.cells #[.int .u32 r] 116)).drew) (Own.new w2 [r]) hb); have HO := Aside0.mk ((HRow.out.own.below (below_drew (below_alloc (Below.refl _ w2) (.cells #[.int .u32 r] 116)))).below hb)) | have HO := Aside0.mk (Own.below (W := w2.drew) HRow.out.own hb)); have qB2 := kn_b (w0 := w) hb; have qC2 : Kn (CL _ [⟨w.heap.size, 0, none⟩, ⟨w.heap.size, 1, none⟩, ⟨w.heap.size + 1, 0, none⟩, ⟨w.heap.size + 1, 1, none⟩, ⟨w.heap.size + 1 + 1, 0, none⟩, ⟨w.heap.size + 1 + 1, 1, none⟩, ⟨w.heap.size + 1 + 1 + 1, 0, none⟩, ⟨w.heap.size + 1 + 1 + 1, 1, none⟩] [.bool s, .slice A0 (dig m).length c0, .bool t, .slice (some ad1) (dig n).length c1, .bool false, .slice none 0 0, .bool false, .slice none 0 0]) := kn_c hb; obtain ⟨q2_0, q2_1, q2_2, q2_3, q2_4, q2_5, q2_6, q2_7, -⟩ := qC2.out; have qF2 : Kn (FZ _ [⟨w.heap.size + 1 + 1, 0, none⟩, ⟨w.heap.size + 1 + 1, 1, none⟩, ⟨w.heap.size + 1 + 1 + 1, 0, none⟩, ⟨w.heap.size + 1 + 1 + 1, 1, none⟩]) := kn_f hb; obtain ⟨⟨-, f2_0⟩, ⟨-, f2_1⟩, ⟨-, f2_2⟩, ⟨-, f2_3⟩, -⟩ := qF2.out; clear hb) | (go_at_call 68; (with_reducible refine (made_one _ _ s r ?ho2 hr4.out).mono ?_); (case ho2 => first | exact HOr.out | exact Own.new w3 [r]); rintro e w4 ⟨rfl, hb⟩; (first | (have HO3 := Aside0.mk (HOr.out.below hb); have HO2 := Aside0.mk (HO.out.below hb)) | (have HO3 := Aside0.mk (Own.below (W := w3.alloc (.cells #[.int .u32 r] 116)) (Own.new w3 [r]) hb); have HO2 := Aside0.mk ((HO.out.below (below_alloc (Below.refl _ w3) (.cells #[.int .u32 r] 116))).below hb))); have qB3 := kn_b (w0 := w) hb; have qC3 : Kn (CL _ [⟨w.heap.size, 0, none⟩, ⟨w.heap.size, 1, none⟩, ⟨w.heap.size + 1, 0, none⟩, ⟨w.heap.size + 1, 1, none⟩, ⟨w.heap.size + 1 + 1, 0, none⟩, ⟨w.heap.size + 1 + 1, 1, none⟩, ⟨w.heap.size + 1 + 1 + 1, 0, none⟩, ⟨w.heap.size + 1 + 1 + 1, 1, none⟩] [.bool s, .slice A0 (dig m).length c0, .bool t, .slice (some ad1) (dig n).length c1, .bool false, .slice none 0 0, .bool false, .slice none 0 0]) := kn_c hb; obtain ⟨q3_0, q3_1, q3_2, q3_3, q3_4, q3_5, q3_6, q3_7, -⟩ := qC3.out; have qF3 : Kn (FZ _ [⟨w.heap.size + 1 + 1, 0, none⟩, ⟨w.heap.size + 1 + 1, 1, none⟩, ⟨w.heap.size + 1 + 1 + 1, 0, none⟩, ⟨w.heap.size + 1 + 1 + 1, 1, none⟩]) := kn_f hb; obtain ⟨⟨-, f3_0⟩, ⟨-, f3_1⟩, ⟨-, f3_2⟩, ⟨-, f3_3⟩, -⟩ := qF3.out; clear hb)))
  · have hsz : w.heap.size + 1 + 1 + 1 + 1 ≤ w1.heap.size := World.block_lt_of_cell? _ _ q0_7
    have hb1 : w1.heap.size ≤ g := HRow.out.base
    have hb2 : w1.heap.size ≤ w2.heap.size := HRow.out.below.size
    have hd := quo_div (m := m) (by have := HD2.out; exact this) (by have := HQ.out; rw [dig_val] at this; exact this) hq0 hq1
    go_wp2
    refine bodyPost_ret (v := .tuple #[.agg #[.bool (u && decide (0 < (dig (val xs).toNat).length)), .slice (some ⟨g, 0, none⟩) (dig (val xs).toNat).length xs.length], .agg #[.bool (s && decide (0 < (dig r.toNat).length)), .slice (some ⟨w3.heap.size, 0, none⟩) (dig r.toNat).length 1]]) (by simp [results, Try.results72, go_sem, q3_4, q3_5, q3_6, q3_7]) rfl ⟨_, _, rfl, ?_, ?_, ?_⟩
    · exact BI.fin4 (made_BI (B := w.heap.size + 1 + 1 + 1 + 1) (n := m / n) HO2.out HRow.out.dg hd.1 hxl.out (by omega) (by rw [HU.out])) (by omega) (by omega) _ _ _ _
    · exact (BI.fin4 (made_BI1 (B := w.heap.size + 1 + 1 + 1 + 1) (n := m % n) HO3.out hr4.out hd.2 (by have := HO.out.lt; have hb3 : w2.heap.size ≤ w3.heap.size := w23.out; omega) rfl) (by omega) (by omega) _ _ _ _).mono fun k hk => .inr hk
    · exact below_set (below_set (below_set (below_set qB3.out (le_two _)) (le_two _)) (le_three _)) (le_three _)
  · have hsz : w.heap.size + 1 + 1 + 1 + 1 ≤ w1.heap.size := World.block_lt_of_cell? _ _ q0_7
    have hb1 : w1.heap.size ≤ g := HRow.out.base
    have hb2 : w1.heap.size ≤ w2.heap.size := HRow.out.below.size
    have hd := quo_div (m := m) (by have := HD2.out; exact this) (by have := HQ.out; rw [dig_val] at this; exact this) hq0 hq1
    go_wp2
    refine bodyPost_ret (v := .tuple #[.agg #[.bool (u && decide (0 < (dig (val xs).toNat).length)), .slice (some ⟨g, 0, none⟩) (dig (val xs).toNat).length xs.length], .agg #[.bool (s && decide (0 < (dig r.toNat).length)), .slice (some ⟨w2.heap.size, 0, none⟩) (dig r.toNat).length 1]]) (by simp [results, Try.results72, go_sem, q3_4, q3_5, q3_6, q3_7]) rfl ⟨_, _, rfl, ?_, ?_, ?_⟩
    · exact BI.fin4 (made_BI (B := w.heap.size + 1 + 1 + 1 + 1) (n := m / n) HO2.out HRow.out.dg hd.1 hxl.out (by omega) (by rw [HU.out])) (by omega) (by omega) _ _ _ _
    · exact (BI.fin4 (made_BI1 (B := w.heap.size + 1 + 1 + 1 + 1) (n := m % n) HO3.out hr4.out hd.2 (by omega) rfl) (by omega) (by omega) _ _ _ _).mono fun k hk => .inr hk
    · exact below_set (below_set (below_set (below_set qB3.out (le_two _)) (le_two _)) (le_three _)) (le_three _)
theorem dig_top_pos {n t : Nat} (h : (dig n).length = t + 1) : 1 ≤ (dig n).getD t 0 := by
  have h1 := dig_top n
  have h2 := dg_get (dig_dg n) t
  have h3 : (dig n).getLast? = some ((dig n).getD t 0) := by
    rw [List.getLast?_eq_getElem?, h, Nat.add_sub_cancel, List.getD_eq_getElem?_getD, List.getElem?_eq_getElem (by omega)]; rfl
  have := h1 _ h3
  omega
set_option maxHeartbeats 4000000 in
set_option maxRecDepth 100000 in
theorem quo_long (w : World) (P : Nat → Prop) (s t : Bool) (m n k : Nat) (A0 A1 : Option Addr) (c0 c1 : Nat) (h0 : Wd w A0 (dig m)) (h1 : Wd w A1 (dig n)) (hm : (dig m).length ≤ 35184372088832) (hlt : n ≤ m) (hn : (dig n).length = k + 1) (hk : 1 ≤ k) :
    Calls Try.prog 72 #[.agg #[.bool s, .slice A0 (dig m).length c0], .agg #[.bool t, .slice A1 (dig n).length c1]] w (QuoPost w P (sg (s != t) (m / n)) (sg s (m % n))) := by
  obtain ⟨r0, hr0, hr1⟩ : ∃ r0, sizeI (dig m) (dig n) = r0 ∧ 0 ≤ r0 := ⟨_, rfl, by rw [sizeI_dig]; unfold cmpI; rw [if_neg (by omega)]; split <;> omega⟩
  have H0 := Aside0.mk h0
  have H1 := Aside0.mk h1
  have HR := Aside0.mk hr0
  have HN := Aside0.mk hn
  have HM := Aside0.mk hm
  have HLN := Aside0.mk (dig_len_mono hlt)
  have HTP := Aside0.mk (dig_top_pos hn)
  have hr2 : decide (r0 < 0) = false := decide_eq_false (by omega)
  have hnb : (((dig n).length : Int) == 1) = false := by rw [beq_eq_false_iff_ne]; omega
  have hnp : 0 < n := by
    rcases Nat.eq_zero_or_pos n with c | c
    · subst c
      rw [dig_zero] at hn
      simp at hn
    · exact c
  have HNP := Aside0.mk hnp
  clear h0 h1 hr0 hr1 hn hlt hm hnp
  go_enter Try.func72, Try.ntmps72
  go_wp2_with (first | (go_at_call 74; (with_reducible refine (sizes_is _ A0 A1 c0 c1 (dig m) (dig n) _ (wd_below H0.out ?hb1) (wd_below H1.out ?hb1) (dig_dg m) (dig_dg n) HR.out).mono ?_); (case hb1 => first | exact Kn.out | with_reducible exact Aside0.out ‹_›); rintro e w1 ⟨rfl, hb⟩; have qB0 := kn_b (w0 := w) hb; have qC0 : Kn (CL _ [⟨w.heap.size, 0, none⟩, ⟨w.heap.size, 1, none⟩, ⟨w.heap.size + 1, 0, none⟩, ⟨w.heap.size + 1, 1, none⟩, ⟨w.heap.size + 1 + 1, 0, none⟩, ⟨w.heap.size + 1 + 1, 1, none⟩, ⟨w.heap.size + 1 + 1 + 1, 0, none⟩, ⟨w.heap.size + 1 + 1 + 1, 1, none⟩] [.bool s, .slice A0 (dig m).length c0, .bool t, .slice A1 (dig n).length c1, .bool false, .slice none 0 0, .bool false, .slice none 0 0]) := kn_c hb; obtain ⟨q0_0, q0_1, q0_2, q0_3, q0_4, q0_5, q0_6, q0_7, -⟩ := qC0.out; have qF0 : Kn (FZ _ [⟨w.heap.size + 1 + 1, 0, none⟩, ⟨w.heap.size + 1 + 1, 1, none⟩, ⟨w.heap.size + 1 + 1 + 1, 0, none⟩, ⟨w.heap.size + 1 + 1 + 1, 1, none⟩]) := kn_f hb; obtain ⟨⟨-, f0_0⟩, ⟨-, f0_1⟩, ⟨-, f0_2⟩, ⟨-, f0_3⟩, -⟩ := qF0.out; clear hb) | (go_at_call 85; (with_reducible refine (long_any _ A0 A1 c0 c1 (dig m) (dig n) k (wd_below H0.out ?hb2) (wd_below H1.out ?hb2) (dig_dg m) (dig_dg n) HN.out hk HLN.out HM.out HTP.out).mono ?_); (case hb2 => first | exact Kn.out | with_reducible exact Aside0.out ‹_›); rintro e w2 ⟨gq, qs, gr, rs, rfl, hq, hr, he, hl⟩; have hb := hq.below; have HRq := Aside0.mk hq; have HRr := Aside0.mk hr; have HE := Aside0.mk he; have HL := Aside0.mk hl; clear hq hr he hl; have qB1 := kn_b (w0 := w) hb; have qC1 : Kn (CL _ [⟨w.heap.size, 0, none⟩, ⟨w.heap.size, 1, none⟩, ⟨w.heap.size + 1, 0, none⟩, ⟨w.heap.size + 1, 1, none⟩, ⟨w.heap.size + 1 + 1, 0, none⟩, ⟨w.heap.size + 1 + 1, 1, none⟩, ⟨w.heap.size + 1 + 1 + 1, 0, none⟩, ⟨w.heap.size + 1 + 1 + 1, 1, none⟩] [.bool s, .slice A0 (dig m).length c0, .bool t, .slice A1 (dig n).length c1, .bool false, .slice none 0 0, .bool false, .slice none 0 0]) := kn_c hb; obtain ⟨q1_0, q1_1, q1_2, q1_3, q1_4, q1_5, q1_6, q1_7, -⟩ := qC1.out; have qF1 : Kn (FZ _ [⟨w.heap.size + 1 + 1, 0, none⟩, ⟨w.heap.size + 1 + 1, 1, none⟩, ⟨w.heap.size + 1 + 1 + 1, 0, none⟩, ⟨w.heap.size + 1 + 1 + 1, 1, none⟩]) := kn_f hb; obtain ⟨⟨-, f1_0⟩, ⟨-, f1_1⟩, ⟨-, f1_2⟩, ⟨-, f1_3⟩, -⟩ := qF1.out; clear hb))
  clear hnb
  obtain ⟨u, hu1⟩ : ∃ u : Bool, (s != t) = u := ⟨_, rfl⟩
  have HU := Aside0.mk hu1
  have hu2 : (!(s == t)) = u := hu1
  have hql := Aside0.mk (show qs.length ≤ 9223372036854775807 by have := HRq.out.len; have := HM.out; omega)
  have hrl := Aside0.mk (show rs.length ≤ 9223372036854775807 by have := HRr.out.len; have := HM.out; have := HLN.out; omega)
  go_region_held3 (fun W => W.cell? ⟨w.heap.size, 0, none⟩ = some (.bool s) ∧ W.cell? ⟨w.heap.size, 1, none⟩ = some (.slice A0 (dig m).length c0) ∧ W.cell? ⟨w.heap.size + 1, 0, none⟩ = some (.bool t) ∧ W.cell? ⟨w.heap.size + 1, 1, none⟩ = some (.slice A1 (dig n).length c1) ∧ Kn (Below w.heap.size w W)) (((repeat' apply And.intro) <;> first | with_reducible assumption | exact Kn.out | infer_instance | ((try (with_reducible refine c_drew ?_)); (repeat' (first | with_reducible refine kset Kn.out ?_ | with_reducible refine kset ‹_› ?_ | with_reducible refine c_low' ?_)); with_reducible assumption))) ((first | (go_at_call 68; (with_reducible refine (made_any _ (some ⟨gq, 0, none⟩) qs.length u qs ?hw1 HRq.out.dg (Nat.le_refl _)).mono ?_); (case hw1 => exact HRq.out.own.wd hql.out); rintro e w3 ⟨rfl, hb⟩; have HOq := Aside0.mk (Own.below (W := w2.drew) HRq.out.own hb); have HOr := Aside0.mk (Own.below (W := w2.drew) HRr.out.own hb); have qB2 := kn_b (w0 := w) hb; have qC2 : Kn (CL _ [⟨w.heap.size, 0, none⟩, ⟨w.heap.size, 1, none⟩, ⟨w.heap.size + 1, 0, none⟩, ⟨w.heap.size + 1, 1, none⟩, ⟨w.heap.size + 1 + 1, 0, none⟩, ⟨w.heap.size + 1 + 1, 1, none⟩, ⟨w.heap.size + 1 + 1 + 1, 0, none⟩, ⟨w.heap.size + 1 + 1 + 1, 1, none⟩] [.bool s, .slice A0 (dig m).length c0, .bool t, .slice A1 (dig n).length c1, .bool false, .slice none 0 0, .bool false, .slice none 0 0]) := kn_c hb; obtain ⟨q2_0, q2_1, q2_2, q2_3, q2_4, q2_5, q2_6, q2_7, -⟩ := qC2.out; have qF2 : Kn (FZ _ [⟨w.heap.size + 1 + 1, 0, none⟩, ⟨w.heap.size + 1 + 1, 1, none⟩, ⟨w.heap.size + 1 + 1 + 1, 0, none⟩, ⟨w.heap.size + 1 + 1 + 1, 1, none⟩]) := kn_f hb; obtain ⟨⟨-, f2_0⟩, ⟨-, f2_1⟩, ⟨-, f2_2⟩, ⟨-, f2_3⟩, -⟩ := qF2.out; clear hb) | (go_at_call 68; (with_reducible refine (made_any _ (some ⟨gr, 0, none⟩) rs.length s rs (HOr.out.wd hrl.out) HRr.out.dg (Nat.le_refl _)).mono ?_); rintro e w4 ⟨rfl, hb⟩; have HOq2 := Aside0.mk (HOq.out.below hb); have HOr2 := Aside0.mk (HOr.out.below hb); have qB3 := kn_b (w0 := w) hb; have qC3 : Kn (CL _ [⟨w.heap.size, 0, none⟩, ⟨w.heap.size, 1, none⟩, ⟨w.heap.size + 1, 0, none⟩, ⟨w.heap.size + 1, 1, none⟩, ⟨w.heap.size + 1 + 1, 0, none⟩, ⟨w.heap.size + 1 + 1, 1, none⟩, ⟨w.heap.size + 1 + 1 + 1, 0, none⟩, ⟨w.heap.size + 1 + 1 + 1, 1, none⟩] [.bool s, .slice A0 (dig m).length c0, .bool t, .slice A1 (dig n).length c1, .bool false, .slice none 0 0, .bool false, .slice none 0 0]) := kn_c hb; obtain ⟨q3_0, q3_1, q3_2, q3_3, q3_4, q3_5, q3_6, q3_7, -⟩ := qC3.out; have qF3 : Kn (FZ _ [⟨w.heap.size + 1 + 1, 0, none⟩, ⟨w.heap.size + 1 + 1, 1, none⟩, ⟨w.heap.size + 1 + 1 + 1, 0, none⟩, ⟨w.heap.size + 1 + 1 + 1, 1, none⟩]) := kn_f hb; obtain ⟨⟨-, f3_0⟩, ⟨-, f3_1⟩, ⟨-, f3_2⟩, ⟨-, f3_3⟩, -⟩ := qF3.out; clear hb)))
  have hsz : w.heap.size + 1 + 1 + 1 + 1 ≤ w1.heap.size := World.block_lt_of_cell? _ _ q0_7
  have hb1 : w1.heap.size ≤ gq := HRq.out.base
  have hb2 : w1.heap.size ≤ gr := HRr.out.base
  have hd := quo_div (m := m) (r := val rs) HNP.out (by have := HE.out; rw [dig_val, dig_val] at this; exact this) (val_nonneg HRr.out.dg) (by have := HL.out; rwa [dig_val] at this)
  go_wp2
  refine bodyPost_ret (v := .tuple #[.agg #[.bool (u && decide (0 < (dig (val qs).toNat).length)), .slice (some ⟨gq, 0, none⟩) (dig (val qs).toNat).length qs.length], .agg #[.bool (s && decide (0 < (dig (val rs).toNat).length)), .slice (some ⟨gr, 0, none⟩) (dig (val rs).toNat).length rs.length]]) (by simp [results, Try.results72, go_sem, q3_4, q3_5, q3_6, q3_7]) rfl ⟨_, _, rfl, ?_, ?_, ?_⟩
  · exact BI.fin4 (made_BI (B := w.heap.size + 1 + 1 + 1 + 1) (n := m / n) HOq2.out HRq.out.dg hd.1 hql.out (by omega) (by rw [HU.out])) (by omega) (by omega) _ _ _ _
  · exact (BI.fin4 (made_BI (B := w.heap.size + 1 + 1 + 1 + 1) (n := m % n) HOr2.out HRr.out.dg hd.2 hrl.out (by omega) rfl) (by omega) (by omega) _ _ _ _).mono fun k hk => .inr hk
  · exact below_set (below_set (below_set (below_set qB3.out (le_two _)) (le_two _)) (le_three _)) (le_three _)
theorem quo_any (w : World) (P : Nat → Prop) (x y : Int) (A0 A1 : Option Addr) (c0 c1 : Nat) (h0 : Wd w A0 (dig x.natAbs)) (h1 : Wd w A1 (dig y.natAbs)) (hc0 : (dig x.natAbs).length ≤ c0) (hP : ∀ ad, A0 = some ad → 0 < (dig x.natAbs).length → P ad.block) (hm : (dig x.natAbs).length ≤ 35184372088832) (hy : y ≠ 0) :
    Calls Try.prog 72 #[arg x A0 c0, arg y A1 c1] w (QuoPost w P (x.tdiv y) (x.tmod y)) := by
  have e1 : x.tdiv y = sg (decide (x < 0) != decide (y < 0)) (x.natAbs / y.natAbs) := by
    have h := sg_of x
    have h' := sg_of y
    conv => lhs; rw [← h, ← h']
    generalize decide (x < 0) = s
    generalize decide (y < 0) = t
    unfold sg
    cases s <;> cases t <;> simp [Int.tdiv_neg, Int.neg_tdiv, Int.ofNat_tdiv]
  have e2 : x.tmod y = sg (decide (x < 0)) (x.natAbs % y.natAbs) := by
    have h := sg_of x
    have h' := sg_of y
    conv => lhs; rw [← h, ← h']
    generalize decide (x < 0) = s
    generalize decide (y < 0) = t
    unfold sg
    cases s <;> cases t <;> simp [Int.tmod_neg, Int.neg_tmod] <;> exact Int.tmod_eq_emod_of_nonneg (by omega)
  rw [e1, e2, arg, arg]
  by_cases c : x.natAbs < y.natAbs
  · have := quo_lt w P (decide (x < 0)) (decide (y < 0)) x.natAbs y.natAbs A0 A1 c0 c1 h0 h1 hc0 hP (by
      have := sg_neg (decide (x < 0)) x.natAbs
      rw [sg_of] at this
      exact this) c
    rw [Nat.div_eq_of_lt c, Nat.mod_eq_of_lt c]
    have z : sg (decide (x < 0) != decide (y < 0)) 0 = 0 := by unfold sg; split <;> rfl
    rw [z]; exact this
  · have hl : (dig y.natAbs).length ≠ 0 := fun e => by have := dig_len_zero.1 e; omega
    by_cases d : (dig y.natAbs).length = 1
    · exact quo_one w P _ _ _ _ A0 A1 c0 c1 h0 h1 hm (by omega) d
    · exact quo_long w P _ _ _ _ ((dig y.natAbs).length - 1) A0 A1 c0 c1 h0 h1 hm (by omega) (by omega) (by omega)
end Go.Proofs.Ytlaidcoickeihaa.Nb
namespace Go.Proofs.Ytlaidcoickeihaa.Nb
open Go.RowKit Go.Proofs.Ytlaidcoickeihaa.Wd.PrintWords Go.Proofs.Ytlaidcoickeihaa.Wd.PrintLast Go.Proofs.Ytlaidcoickeihaa.Wd.PrintMore Go.Proofs.Ytlaidcoickeihaa.Big
set_option synthInstance.maxSize 2000
set_option synthInstance.maxHeartbeats 400000
theorem dig_len_ne {n : Nat} (h : n ≠ 0) : 0 < (dig n).length := by
  have := @dig_len_zero n
  omega
set_option maxHeartbeats 4000000 in
set_option maxRecDepth 100000 in
theorem sign_any (w : World) (P : Nat → Prop) (v : Value) (z : Int) (h : BI w P v z) :
    Calls Try.prog 69 #[v] w fun e w' => e = .returned (.int .i64 z.sign) ∧ Below w.heap.size w w' := by
  obtain ⟨A, c, rfl, hc, hw, ho⟩ := h
  have HC := Aside0.mk hc
  clear hw ho hc
  rcases Int.lt_trichotomy z 0 with hz | hz | hz
  · have hs : z.sign = -1 := Int.sign_eq_neg_one_of_neg hz
    have hd : decide (z < 0) = true := decide_eq_true hz
    have hl : (((dig z.natAbs).length : Int) == 0) = false := by
      have := @dig_len_ne z.natAbs (by omega)
      rw [beq_eq_false_iff_ne]; omega
    rw [hd, hs]
    clear hz hd hs
    go_enter Try.func69, Try.ntmps69
    go_wp2
    exact bodyPost_ret (v := .int .i64 (-1)) (by simp [results, Try.results69]) rfl ⟨rfl, below_alloc (Below.refl _ _) _⟩
  · subst hz
    rw [show (0 : Int).natAbs = 0 from rfl, dig_zero]
    go_enter Try.func69, Try.ntmps69
    go_wp2
    exact bodyPost_ret (v := .int .i64 0) (by simp [results, Try.results69]) rfl ⟨rfl, below_alloc (Below.refl _ _) _⟩
  · have hs : z.sign = 1 := Int.sign_eq_one_of_pos hz
    have hd : decide (z < 0) = false := decide_eq_false (by omega)
    have hl : (((dig z.natAbs).length : Int) == 0) = false := by
      have := @dig_len_ne z.natAbs (by omega)
      rw [beq_eq_false_iff_ne]; omega
    rw [hd, hs]
    clear hz hd hs
    go_enter Try.func69, Try.ntmps69
    go_wp2
    exact bodyPost_ret (v := .int .i64 1) (by simp [results, Try.results69]) rfl ⟨rfl, below_alloc (Below.refl _ _) _⟩
set_option maxHeartbeats 4000000 in
set_option maxRecDepth 100000 in
theorem neg_any (w : World) (P : Nat → Prop) (v : Value) (z : Int) (h : BI w P v z) :
    Calls Try.prog 71 #[v] w fun e w' => ∃ u, e = .returned u ∧ BI w' P u (-z) ∧ Below w.heap.size w w' := by
  obtain ⟨A, c, rfl, hc, hw, ho⟩ := h
  have hb : (!(decide (z < 0)) && decide (0 < ((dig z.natAbs).length : Int))) = decide (-z < 0) := by
    have := dig_len_pos z.natAbs
    by_cases e : z = 0
    · subst e; simp [dig_zero]
    · have := @dig_len_ne z.natAbs (by omega)
      have h1 : decide (0 < ((dig z.natAbs).length : Int)) = true := decide_eq_true (by omega)
      rw [h1]
      by_cases c : z < 0
      · rw [decide_eq_true c, decide_eq_false (by omega)]; rfl
      · rw [decide_eq_false c, decide_eq_true (by omega)]; rfl
  have HW := Aside0.mk hw
  have HO := Aside0.mk ho
  have HC := Aside0.mk hc
  have HBB := Aside0.mk hb
  clear hw ho hb hc
  generalize decide (z < 0) = s at *
  go_enter Try.func71, Try.ntmps71
  go_wp2
  all_goals first
    | rename s = true => hs
      subst hs
    | rename ¬s = true => hs
      obtain rfl : s = false := by simpa using hs
  · have h2 := HBB.out
    simp at h2
    refine bodyPost_ret (v := .agg #[.bool false, .slice A (dig z.natAbs).length c]) (by simp [results, Try.results71, go_sem]) rfl ⟨_, rfl, ⟨A, c, ?_, ?_, ?_, ?_⟩, below_alloc (below_alloc (Below.refl _ _) _) _⟩
    · rw [Int.natAbs_neg, decide_eq_false (by omega)]
    · rw [Int.natAbs_neg]; exact HC.out
    · rw [Int.natAbs_neg]; exact wd_below HW.out (below_alloc (below_alloc (Below.refl _ _) _) _)
    · rw [Int.natAbs_neg]; exact HO.out
  · have h2 := HBB.out
    simp only [Bool.not_false, Bool.true_and, Int.natCast_pos] at h2
    refine bodyPost_ret (v := .agg #[.bool (decide (0 < (dig z.natAbs).length)), .slice A (dig z.natAbs).length c]) (by simp [results, Try.results71, go_sem]) rfl ⟨_, rfl, ⟨A, c, ?_, ?_, ?_, ?_⟩, below_alloc (below_alloc (Below.refl _ _) _) _⟩
    · rw [Int.natAbs_neg, h2]
    · rw [Int.natAbs_neg]; exact HC.out
    · rw [Int.natAbs_neg]; exact wd_below HW.out (below_alloc (below_alloc (Below.refl _ _) _) _)
    · rw [Int.natAbs_neg]; exact HO.out
theorem of_own (w : World) (a b : Value) (x y : Int) {W : World} (h : W = (w.alloc (.cells #[a, b] 85)).alloc (.cells #[.int .u32 x, .int .u32 y] 116)) : Own W (w.heap.size + 1) [x, y] := by
  subst h
  have := Own.new (w.alloc (.cells #[a, b] 85)) [x, y]
  simpa [nums] using this
set_option maxHeartbeats 4000000 in
set_option maxRecDepth 100000 in
theorem of_any (w : World) (n : Int) (hn : -9223372036854775808 ≤ n ∧ n ≤ 9223372036854775807) :
    Calls Try.prog 53 #[.int .i64 n] w (NewI w (fun k => w.heap.size ≤ k) n) := by
  obtain ⟨h0, h1⟩ := hn
  have key : ∀ (m : Int) (k : Nat), m = k → k < 18446744073709551616 → dig (val [m % 4294967296, m / 4294967296]).toNat = dig k ∧ Dg [m % 4294967296, m / 4294967296] ∧ val [m % 4294967296, m / 4294967296] = k := by
    rintro m k rfl hk
    have e : val [(k : Int) % 4294967296, (k : Int) / 4294967296] = k := by simp only [val]; omega
    refine ⟨by rw [e]; rfl, ?_, e⟩
    intro x hx
    simp only [List.mem_cons, List.not_mem_nil, or_false] at hx
    omega
  by_cases hz : n < 0
  · have hu : IntKind.u64.wrap (-IntKind.u64.wrap n) = -n := by
      simp [IntKind.wrap, IntKind.bits, IntKind.signed]; omega
    obtain ⟨k1, k2, k3⟩ := key (-n) n.natAbs (by omega) (by omega)
    have K1 := Aside0.mk k1
    have K2 := Aside0.mk k2
    have K3 := Aside0.mk k3
    have hd : decide (n < 0) = true := decide_eq_true hz
    clear k1 k2 k3 key
    go_enter Try.func53, Try.ntmps53
    go_wp2_with (go_at_call 68; refine (made_any _ (some ⟨w.heap.size + 1, 0, none⟩) 2 true [-n % 4294967296, -n / 4294967296] ?wd1 K2.out (Nat.le_refl _)).mono ?_; (case wd1 => exact Own.wd (of_own w _ _ _ _ rfl) (by simp)); rintro e w1 ⟨rfl, hb⟩; have HO := Aside0.mk ((of_own w _ _ _ _ rfl).below hb); have r4 := kc hb (c_low' (c_new rfl rfl) : World.cell? _ ⟨w.heap.size, 0, none⟩ = some (.bool false)); have r5 := kc hb (c_low' (c_new rfl rfl) : World.cell? _ ⟨w.heap.size, 1, none⟩ = some (.slice none 0 0)); have g4 := kf hb (c_low' (c_new rfl rfl) : World.cell? _ ⟨w.heap.size, 0, none⟩ = some (.bool false)) (f_low (by simp) (f_new rfl)); have g5 := kf hb (c_low' (c_new rfl rfl) : World.cell? _ ⟨w.heap.size, 1, none⟩ = some (.slice none 0 0)) (f_low (by simp) (f_new rfl)); have HB := Aside0.mk (below_step (below_alloc (below_alloc (Below.refl _ _) _) _) hb); clear hb)
    have hz2 := made_BI (s := true) (n := n.natAbs) HO.out K2.out K3.out (by simp) (Nat.le_refl (w.heap.size + 1)) rfl
    have k1 := K1.out
    rw [k1] at hz2
    rw [k1]
    refine bodyPost_ret (v := .agg #[.bool (decide (0 < (dig n.natAbs).length)), .slice (some ⟨w.heap.size + 1, 0, none⟩) (dig n.natAbs).length 2]) (by simp [results, Try.results53, go_sem, r4, r5]) rfl ⟨_, rfl, ?_, below_set (below_set HB.out (Nat.le_refl _)) (Nat.le_refl _)⟩
    have e : sg true n.natAbs = n := by unfold sg; simp; omega
    rw [e] at hz2
    simp only [Bool.true_and, Bool.false_and] at hz2
    exact ((hz2.set (p := ⟨w.heap.size, 0, none⟩) (Nat.lt_succ_self _) _).set (p := ⟨w.heap.size, 1, none⟩) (Nat.lt_succ_self _) _).mono fun k hk => by omega
  · obtain ⟨k1, k2, k3⟩ := key n n.natAbs (by omega) (by omega)
    have K1 := Aside0.mk k1
    have K2 := Aside0.mk k2
    have K3 := Aside0.mk k3
    have hd : decide (n < 0) = false := decide_eq_false hz
    clear k1 k2 k3 key
    go_enter Try.func53, Try.ntmps53
    go_wp2_with (go_at_call 68; refine (made_any _ (some ⟨w.heap.size + 1, 0, none⟩) 2 false [n % 4294967296, n / 4294967296] ?wd1 K2.out (Nat.le_refl _)).mono ?_; (case wd1 => exact Own.wd (of_own w _ _ _ _ rfl) (by simp)); rintro e w1 ⟨rfl, hb⟩; have HO := Aside0.mk ((of_own w _ _ _ _ rfl).below hb); have r4 := kc hb (c_low' (c_new rfl rfl) : World.cell? _ ⟨w.heap.size, 0, none⟩ = some (.bool false)); have r5 := kc hb (c_low' (c_new rfl rfl) : World.cell? _ ⟨w.heap.size, 1, none⟩ = some (.slice none 0 0)); have g4 := kf hb (c_low' (c_new rfl rfl) : World.cell? _ ⟨w.heap.size, 0, none⟩ = some (.bool false)) (f_low (by simp) (f_new rfl)); have g5 := kf hb (c_low' (c_new rfl rfl) : World.cell? _ ⟨w.heap.size, 1, none⟩ = some (.slice none 0 0)) (f_low (by simp) (f_new rfl)); have HB := Aside0.mk (below_step (below_alloc (below_alloc (Below.refl _ _) _) _) hb); clear hb)
    have hz2 := made_BI (s := false) (n := n.natAbs) HO.out K2.out K3.out (by simp) (Nat.le_refl (w.heap.size + 1)) rfl
    have k1 := K1.out
    rw [k1] at hz2
    rw [k1]
    refine bodyPost_ret (v := .agg #[.bool (false), .slice (some ⟨w.heap.size + 1, 0, none⟩) (dig n.natAbs).length 2]) (by simp [results, Try.results53, go_sem, r4, r5]) rfl ⟨_, rfl, ?_, below_set (below_set HB.out (Nat.le_refl _)) (Nat.le_refl _)⟩
    have e : sg false n.natAbs = n := by unfold sg; simp; omega
    rw [e] at hz2
    simp only [Bool.true_and, Bool.false_and] at hz2
    exact ((hz2.set (p := ⟨w.heap.size, 0, none⟩) (Nat.lt_succ_self _) _).set (p := ⟨w.heap.size, 1, none⟩) (Nat.lt_succ_self _) _).mono fun k hk => by omega
theorem small_or (o x : Int) (i : Nat) (h : o = 0 ∧ i = 0 ∨ i = 1) (ho : 0 ≤ o ∧ o < 4294967296) (hx : 0 ≤ x ∧ x < 4294967296) : bits .or .u64 o (IntKind.u64.wrap (x * 2 ^ (32 * i))) = o + 4294967296 ^ i * x := by
  rcases h with ⟨rfl, rfl⟩ | rfl
  · have := or_pack x 0 hx (by omega)
    rw [IntWalk.u64_in _ (by omega)]
    simpa using this
  · have e : IntKind.u64.wrap (x * 2 ^ (32 * 1)) = x * 4294967296 := IntWalk.u64_in _ (by omega)
    rw [e]
    obtain ⟨a, rfl⟩ := Int.eq_ofNat_of_zero_le ho.1
    obtain ⟨b, rfl⟩ := Int.eq_ofNat_of_zero_le hx.1
    have ha : a < 4294967296 := by omega
    have hb : b < 4294967296 := by omega
    rw [show ((b : Int) * 4294967296) = ((b * 4294967296 : Nat) : Int) by omega, u64_or_nat _ _ (by omega) (by omega)]
    have := Nat.two_pow_add_eq_or_of_lt (i := 32) (b := a) ha b
    rw [Nat.or_comm, Nat.mul_comm b, show (4294967296 : Nat) = 2 ^ 32 from rfl, ← this]
    omega
theorem len_gt2 {n : Nat} (h : 2 < (dig n).length) : 4611686018427387904 ≤ n := by
  have h1 : (dig 18446744073709551615).length ≤ 2 := dig_len_le (by decide)
  have := @lt_of_dig_len 18446744073709551615 n (by omega)
  omega
def isSmall (z : Int) : Bool := decide (z.natAbs < 4611686018427387904)
def smallI (z : Int) : Int := if isSmall z = true then z else 0
set_option maxHeartbeats 4000000 in
set_option maxRecDepth 100000 in
theorem small_any (w : World) (P : Nat → Prop) (v : Value) (z : Int) (h : BI w P v z) :
    Calls Try.prog 59 #[v] w fun e w' => e = .returned (.tuple #[.int .i64 (smallI z), .bool (isSmall z)]) ∧ Below w.heap.size w w' := by
  obtain ⟨A, c, rfl, hc, hw, ho⟩ := h
  have HW := Aside0.mk hw
  have HZ := Aside0.mk (dig_val z.natAbs)
  have HD := Aside0.mk (dig_dg z.natAbs)
  clear hc hw ho
  by_cases hl : 2 < (dig z.natAbs).length
  · have hs : isSmall z = false := decide_eq_false (by have := len_gt2 hl; omega)
    have hz : smallI z = 0 := by unfold smallI; rw [hs]; rfl
    rw [hs, hz]
    clear hs hz
    go_enter Try.func59, Try.ntmps59
    go_wp2
    exact bodyPost_ret (v := .tuple #[.int .i64 0, .bool false]) (by simp [results, Try.results59]) rfl ⟨rfl, below_alloc (Below.refl _ _) _⟩
  · have hbit : isSmall z = decide ((z.natAbs : Int) < 4611686018427387904) := by unfold isSmall; rw [decide_eq_decide]; omega
    have HB := Aside0.mk hbit
    have HS := Aside0.mk (show decide (z < 0) = true → z = -(z.natAbs : Int) from fun h => by simp at h; omega)
    have HT := Aside0.mk (show decide (z < 0) = false → z = (z.natAbs : Int) from fun h => by simp at h; omega)
    clear hbit
    generalize (z.natAbs : Int) = n at *
    generalize dig z.natAbs = l at *
    generalize decide (z < 0) = s at *
    go_enter Try.func59, Try.ntmps59
    go_wp2
    go_loopw [4, 14] (fun v4 v14 W => ∃ (i : Nat) (o : Int), v14 = .int .i64 i ∧ v4 = .int .u64 o ∧ i ≤ l.length ∧ Aside0 (o = val (l.take i)) ∧ Aside0 (Below w.heap.size w W) ∧ Aside0 (W.cell? ⟨w.heap.size, 0, none⟩ = some (.bool s))) (fun _ v14 _ => l.length - (intOf v14).toNat)
    case atStart => exact ⟨0, 0, rfl, rfl, Nat.zero_le _, ⟨by simp [val_nil]⟩, ⟨below_alloc (Below.refl _ _) _⟩, ⟨c_new rfl rfl⟩⟩
    case round =>
      obtain ⟨i, o, rfl, rfl, hi, HV, HWW, HQ⟩ := hrel
      have q0 := HQ.out
      by_cases hlt : i < l.length
      · obtain ⟨ad0, e0, x0⟩ := wd_at (wd_below HW.out HWW.out) i hlt
        subst e0
        have y0 := dg_get HD.out i
        have HA := Aside0.mk (val_take_succ l i)
        have hor := small_or o (l.getD i 0) i ?hor1 ?hor2 y0
        case hor1 =>
          rcases Nat.eq_zero_or_pos i with c | c
          · exact .inl ⟨by rw [HV.out, c]; simp [val_nil], c⟩
          · exact .inr (by omega)
        case hor2 =>
          have h1 := val_nonneg (dg_take HD.out i)
          have h2 := val_lt (dg_take HD.out i)
          rw [← HV.out] at h1 h2
          refine ⟨h1, Int.lt_of_lt_of_le h2 ?_⟩
          have : (l.take i).length ≤ 1 := by rw [List.length_take]; omega
          have h3 : ((4294967296 ^ (l.take i).length : Nat) : Int) ≤ ((4294967296 ^ 1 : Nat) : Int) := Int.ofNat_le.2 (Nat.pow_le_pow_right (by decide) this)
          simpa using h3
        generalize l.getD i 0 = x at *
        go_wp2
        exact ⟨⟨i + 1, o + 4294967296 ^ i * x, by go_num, rfl, by omega, ⟨by rw [HA.out, ← HV.out]⟩, HWW, HQ⟩, by simp [intOf]; omega⟩
      · obtain rfl : i = l.length := by omega
        have HK := Aside0.mk (show o = n by rw [HV.out, List.take_length, HZ.out])
        obtain rfl := HK.out
        go_wp2
        all_goals have ho := val_nonneg HD.out
        all_goals rw [HZ.out] at ho
        · rename 4611686018427387904 ≤ o => hb
          have e : isSmall z = false := by rw [HB.out]; exact decide_eq_false (by omega)
          exact bodyPost_ret (v := .tuple #[.int .i64 0, .bool false]) (by simp [results, Try.results59]) rfl ⟨by unfold smallI; rw [e]; rfl, HWW.out⟩
        · rename o < 4611686018427387904 => hb
          rename s = true => hs
          have e : isSmall z = true := by rw [HB.out]; exact decide_eq_true hb
          have ew : wrap64 (-wrap64 o) = z := by rw [HS.out hs]; simp only [wrap64]; omega
          rw [ew]
          exact bodyPost_ret (v := .tuple #[.int .i64 z, .bool true]) (by simp [results, Try.results59]) rfl ⟨by unfold smallI; rw [e]; rfl, HWW.out⟩
        · rename o < 4611686018427387904 => hb
          rename s = false => hs
          have e : isSmall z = true := by rw [HB.out]; exact decide_eq_true hb
          have ew : wrap64 o = z := by rw [HT.out hs]; simp only [wrap64]; omega
          rw [ew]
          exact bodyPost_ret (v := .tuple #[.int .i64 z, .bool true]) (by simp [results, Try.results59]) rfl ⟨by unfold smallI; rw [e]; rfl, HWW.out⟩
end Go.Proofs.Ytlaidcoickeihaa.Nb
namespace Go.Proofs.Ytlaidcoickeihaa.Nb
open Go.RowKit Go.Proofs.Ytlaidcoickeihaa.Wd.PrintWords Go.Proofs.Ytlaidcoickeihaa.Wd.PrintLast Go.Proofs.Ytlaidcoickeihaa.Wd.PrintMore Go.Proofs.Ytlaidcoickeihaa.Big
set_option synthInstance.maxSize 2000
set_option synthInstance.maxHeartbeats 400000
structure WN (w : World) (ok : Nat → Prop) (A : Option Addr) (c n : Nat) : Prop where
  wd : Wd w A (dig n)
  cap : (dig n).length ≤ c
  ok : ∀ ad, A = some ad → 0 < (dig n).length → ok ad.block
theorem WN.below {w w' : World} {ok : Nat → Prop} {A : Option Addr} {c n : Nat} (h : WN w ok A c n) (hb : Below w.heap.size w w') : WN w' ok A c n := ⟨wd_below h.wd hb, h.cap, h.ok⟩
theorem WN.mono {w : World} {ok ok' : Nat → Prop} {A : Option Addr} {c n : Nat} (h : WN w ok A c n) (hk : ∀ k, ok k → ok' k) : WN w ok' A c n := ⟨h.wd, h.cap, fun ad ha hp => hk _ (h.ok ad ha hp)⟩
theorem BI.nat {w : World} {ok : Nat → Prop} {v : Value} {n : Nat} (h : BI w ok v n) : ∃ A c, v = .agg #[.bool false, .slice A (dig n).length c] ∧ WN w ok A c n := by
  obtain ⟨A, c, e, hc, hw, ho⟩ := h
  refine ⟨A, c, ?_, by simpa using hw, by simpa using hc, by simpa using ho⟩
  rw [e, decide_eq_false (by omega), Int.natAbs_natCast]
theorem WN.bi {w : World} {ok : Nat → Prop} {A : Option Addr} {c n : Nat} (h : WN w ok A c n) : BI w ok (.agg #[.bool false, .slice A (dig n).length c]) n := by
  refine ⟨A, c, ?_, by simpa using h.cap, by simpa using h.wd, by simpa using h.ok⟩
  rw [decide_eq_false (by omega), Int.natAbs_natCast]
theorem WN.low {w : World} {ok : Nat → Prop} {A : Option Addr} {c n : Nat} (h : WN w ok A c n) : WN w (fun k => ok k ∧ k < w.heap.size) A c n := by
  refine ⟨h.wd, h.cap, fun ad ha hp => ⟨h.ok ad ha hp, ?_⟩⟩
  obtain ⟨ad', e, hc⟩ := wd_at h.wd 0 hp
  rw [ha] at e
  cases e
  exact World.block_lt_of_cell? _ _ hc
theorem WN.set {w : World} {ok : Nat → Prop} {A : Option Addr} {c n : Nat} (h : WN w ok A c n) {p : Addr} (hp : ¬ ok p.block) (u : Value) : WN (w.setCell p u) ok A c n :=
  ⟨wd_set h.wd (fun ad ha hl e => hp (e ▸ h.ok ad ha hl)) u, h.cap, h.ok⟩
theorem fro3 (w : World) (a b c : Array Value) (T : TypeId) : ∀ k i, w.heap.size ≤ k → k ≤ w.heap.size + 1 + 1 → (((w.alloc (.cells a T)).alloc (.cells b T)).alloc (.cells c T)).frozen? ⟨k, i, none⟩ = false := by
  intro k i h0 h1
  rcases (by omega : k = w.heap.size ∨ k = w.heap.size + 1 ∨ k = w.heap.size + 1 + 1) with rfl | rfl | rfl
  · exact f_low (by simp; omega) (f_low (by simp) (f_new rfl))
  · exact f_low (by simp) (f_new (by simp))
  · exact f_new (by simp)
theorem two_new (w : World) (a0 a1 b0 b1 : Value) (T : TypeId) : ∃ W g, W = (w.alloc (.cells #[a0, a1] T)).alloc (.cells #[b0, b1] T) ∧ g = w.heap.size + 1 ∧ W.cell? ⟨g, 0, none⟩ = some b0 ∧ W.cell? ⟨g, 1, none⟩ = some b1 ∧ Below w.heap.size w W :=
  ⟨_, _, rfl, rfl, c_new (by simp) rfl, c_new (by simp) rfl, below_alloc (below_alloc (Below.refl _ _) _) _⟩
theorem not_ok {P : Nat → Prop} {n b : Nat} (h0 : n ≤ b) (h1 : b < n + 1 + 1 + 1) : ¬ (P b ∧ b < n ∨ n + 1 + 1 + 1 ≤ b) := by
  rintro (⟨_, h⟩ | h) <;> omega
theorem or_ok {P : Nat → Prop} {n k : Nat} (h : P k ∧ k < n ∨ n + 1 + 1 + 1 ≤ k) : P k ∨ n ≤ k := by
  rcases h with ⟨h, _⟩ | h
  · exact .inl h
  · exact .inr (by omega)
theorem kset1 {W : World} {p q : Addr} {u v : Value} (hne : p ≠ q) (h : W.cell? p = some v) : (W.setCell q u).cell? p = some v := by
  rw [← h]
  exact World.cell?_setCell_other _ _ _ _ (fun e => hne e.symm)
theorem csame {W : World} {p : Addr} {u v : Value} (h : W.cell? p = some u) : (W.setCell p v).cell? p = some v := World.cell?_setCell_same _ _ _ h
theorem WN.drew {w : World} {ok : Nat → Prop} {A : Option Addr} {c n : Nat} (h : WN w ok A c n) : WN w.drew ok A c n := h.below (below_drew (Below.refl _ _))
theorem swap_world (W : World) (n : Nat) (x0 x1 y0 y1 a0 a1 b0 b1 r0 r1 : Value) (h0 : W.cell? ⟨n, 0, none⟩ = some a0) (h1 : W.cell? ⟨n, 1, none⟩ = some a1) (h2 : W.cell? ⟨n + 1, 0, none⟩ = some b0) (h3 : W.cell? ⟨n + 1, 1, none⟩ = some b1) (h4 : W.cell? ⟨n + 1 + 1, 0, none⟩ = some r0) (h5 : W.cell? ⟨n + 1 + 1, 1, none⟩ = some r1) {W' : World}
    (hW : W' = ((((W.setCell ⟨n, 0, none⟩ x0).setCell ⟨n, 1, none⟩ x1).setCell ⟨n + 1, 0, none⟩ y0).setCell ⟨n + 1, 1, none⟩ y1).drew) :
    (W'.cell? ⟨n, 0, none⟩ = some x0 ∧ W'.cell? ⟨n, 1, none⟩ = some x1) ∧ (W'.cell? ⟨n + 1, 0, none⟩ = some y0 ∧ W'.cell? ⟨n + 1, 1, none⟩ = some y1) ∧ (W'.cell? ⟨n + 1 + 1, 0, none⟩ = some r0 ∧ W'.cell? ⟨n + 1 + 1, 1, none⟩ = some r1) ∧ (∀ a, W'.frozen? a = W.frozen? a) ∧
    (∀ ok A c k, ¬ ok n → ¬ ok (n + 1) → WN W ok A c k → WN W' ok A c k) := by
  subst hW
  refine ⟨⟨?_, ?_⟩, ⟨?_, ?_⟩, ⟨?_, ?_⟩, ?_, ?_⟩
  · exact c_drew (kset (by_ne1 _) (kset (by_ne1 _) (kset1 (by simp) (csame h0))))
  · exact c_drew (kset (by_ne1 _) (kset (by_ne1 _) (csame (kset1 (by simp) h1))))
  · exact c_drew (kset1 (by simp) (csame (kset (by simp) (kset (by simp) h2))))
  · exact c_drew (csame (kset1 (by simp) (kset (by simp) (kset (by simp) h3))))
  · exact c_drew (kset (by simp) (kset (by simp) (kset (by simp only []; omega) (kset (by simp only []; omega) h4))))
  · exact c_drew (kset (by simp) (kset (by simp) (kset (by simp only []; omega) (kset (by simp only []; omega) h5))))
  · intro a
    show (World.setCell _ _ _).frozen? a = _
    simp only [World.frozen?_setCell]
  · intro ok A c k k0 k1 h
    exact ((((h.set (p := ⟨n, 0, none⟩) k0 _).set (p := ⟨n, 1, none⟩) k0 _).set (p := ⟨n + 1, 0, none⟩) k1 _).set (p := ⟨n + 1, 1, none⟩) k1 _).drew
theorem quo_nat (w : World) (P : Nat → Prop) (Q : Nat → Prop) (m n : Nat) (A0 A1 : Option Addr) (c0 c1 : Nat) (h0 : WN w P A0 c0 m) (h1 : WN w Q A1 c1 n) (hm : (dig m).length ≤ 35184372088832) (hn : 0 < n) :
    Calls Try.prog 72 #[.agg #[.bool false, .slice A0 (dig m).length c0], .agg #[.bool false, .slice A1 (dig n).length c1]] w fun e w' =>
      ∃ (u : Option Addr × Nat) (B : Option Addr) (c : Nat), e = .returned (.tuple #[.agg #[.bool false, .slice u.1 (dig (m / n)).length u.2], .agg #[.bool false, .slice B (dig (m % n)).length c]]) ∧ WN w' (fun k => P k ∨ w.heap.size ≤ k) B c (m % n) ∧ Below w.heap.size w w' := by
  have := quo_any w P m n A0 A1 c0 c1 (by simpa using h0.wd) (by simpa using h1.wd) (by simpa using h0.cap) (by simpa using h0.ok) (by simpa using hm) (by omega)
  have e : ∀ (k : Nat) A c, arg (k : Int) A c = .agg #[.bool false, .slice A (dig k).length c] := fun k A c => by rw [arg, decide_eq_false (by omega), Int.natAbs_natCast]
  rw [e, e] at this
  refine this.mono ?_
  rintro e w' ⟨v, u, rfl, hv, hu, hb⟩
  rw [show (m : Int).tmod n = ((m % n : Nat) : Int) from rfl] at hu
  rw [show (m : Int).tdiv n = ((m / n : Nat) : Int) from rfl] at hv
  obtain ⟨B, c, rfl, hB⟩ := hu.nat
  obtain ⟨D, d, rfl, hD⟩ := hv.nat
  exact ⟨⟨D, d⟩, B, c, rfl, hB, hb⟩
set_option maxHeartbeats 4000000 in
set_option maxRecDepth 100000 in
theorem gcd_raw (w : World) (P : Nat → Prop) (s t : Bool) (M N : Nat) (A0 A1 : Option Addr) (c0 c1 : Nat) (h0 : WN w P A0 c0 M) (h1 : WN w P A1 c1 N) (hm : (dig M).length ≤ 35184372088832) (hn : (dig N).length ≤ 35184372088832) :
    Calls Try.prog 70 #[.agg #[.bool s, .slice A0 (dig M).length c0], .agg #[.bool t, .slice A1 (dig N).length c1]] w (NewI w (fun k => P k ∨ w.heap.size ≤ k) (Nat.gcd M N)) := by
  have H0 := Aside0.mk h0
  have H1 := Aside0.mk h1
  have HM := Aside0.mk hm
  have HN := Aside0.mk hn
  clear h0 h1 hm hn
  go_enter Try.func70, Try.ntmps70
  go_wp2
  go_loopg [] N (fun g W => ∃ (m : Nat) (A D : Option Addr) (c d : Nat), Aside0 (Below w.heap.size w W) ∧ (W.cell? ⟨w.heap.size, 0, none⟩ = some (.bool false) ∧ W.cell? ⟨w.heap.size, 1, none⟩ = some (.slice A (dig m).length c)) ∧ (W.cell? ⟨w.heap.size + 1, 0, none⟩ = some (.bool false) ∧ W.cell? ⟨w.heap.size + 1, 1, none⟩ = some (.slice D (dig g).length d)) ∧ (W.cell? ⟨w.heap.size + 1 + 1, 0, none⟩ = some (.bool false) ∧ W.cell? ⟨w.heap.size + 1 + 1, 1, none⟩ = some (.slice none 0 0)) ∧ Aside0 (∀ b i, w.heap.size ≤ b → b ≤ w.heap.size + 1 + 1 → W.frozen? ⟨b, i, none⟩ = false) ∧
    Aside0 (WN W (fun k => P k ∧ k < w.heap.size ∨ w.heap.size + 1 + 1 + 1 ≤ k) A c m ∧ WN W (fun k => P k ∧ k < w.heap.size ∨ w.heap.size + 1 + 1 + 1 ≤ k) D d g ∧ Nat.gcd m g = Nat.gcd M N ∧ (dig m).length ≤ 35184372088832 ∧ (dig g).length ≤ 35184372088832))
  case atStart =>
    refine ⟨M, A0, A1, c0, c1, ⟨below_alloc (below_alloc (below_alloc (Below.refl _ _) _) _) _⟩, ⟨c_low' (c_low' (c_new rfl rfl)), c_low' (c_low' (c_new rfl rfl))⟩, ⟨c_low' (c_new (by simp) rfl), c_low' (c_new (by simp) rfl)⟩, ⟨c_new (by simp) rfl, c_new (by simp) rfl⟩, ⟨?_⟩, ⟨?_, ?_, rfl, HM.out, HN.out⟩⟩
    · exact fro3 w _ _ _ _
    · exact (H0.out.low.below (below_alloc (below_alloc (below_alloc (Below.refl _ _) _) _) _)).mono fun k h => .inl h
    · exact (H1.out.low.below (below_alloc (below_alloc (below_alloc (Below.refl _ _) _) _) _)).mono fun k h => .inl h
  case round =>
    obtain ⟨m, A, D, c, d, HB, ⟨p0, p1⟩, ⟨p2, p3⟩, ⟨p4, p5⟩, HF, HR⟩ := hrel
    have f0 := HF.out w.heap.size 0 (by omega) (by omega)
    have f1 := HF.out w.heap.size 1 (by omega) (by omega)
    have f2 := HF.out (w.heap.size + 1) 0 (by omega) (by omega)
    have f3 := HF.out (w.heap.size + 1) 1 (by omega) (by omega)
    have f4 := HF.out (w.heap.size + 1 + 1) 0 (by omega) (by omega)
    have f5 := HF.out (w.heap.size + 1 + 1) 1 (by omega) (by omega)
    rcases Nat.eq_zero_or_pos gk with hz | hz
    · have HG := Aside0.mk hz
      rw [hz, dig_zero] at p3
      clear hz
      go_wp2
      have hm : m = Nat.gcd M N := by rw [← HR.out.2.2.1, HG.out]; exact (Nat.gcd_zero_right m).symm
      refine bodyPost_ret (v := .agg #[.bool false, .slice A (dig m).length c]) (by simp [results, Try.results70, go_sem, p4, p5]) rfl ⟨_, rfl, ?_, below_set (below_set HB.out (le_two _)) (le_two _)⟩
      rw [← hm]
      exact ((((HR.out.1.set (p := ⟨w.heap.size + 1 + 1, 0, none⟩) (not_ok (le_two _) (Nat.lt_succ_self _)) _).set (p := ⟨w.heap.size + 1 + 1, 1, none⟩) (not_ok (le_two _) (Nat.lt_succ_self _)) _).mono fun k hk => or_ok hk)).bi
    · have hl : (0 : Int) < ((dig gk).length : Int) := by have := @dig_len_ne gk (by omega); omega
      have HG := Aside0.mk hz
      clear hz
      have qBs := Kn.mk HB.out; have qCs : Kn (CL _ [⟨w.heap.size, 0, none⟩, ⟨w.heap.size, 1, none⟩, ⟨w.heap.size + 1, 0, none⟩, ⟨w.heap.size + 1, 1, none⟩, ⟨w.heap.size + 1 + 1, 0, none⟩, ⟨w.heap.size + 1 + 1, 1, none⟩] [.bool false, .slice A (dig m).length c, .bool false, .slice D (dig gk).length d, .bool false, .slice none 0 0]) := ⟨cl_c p0 (cl_c p1 (cl_c p2 (cl_c p3 (cl_c p4 (cl_c p5 (cl_n _))))))⟩; have qFs : Kn (FZ _ [⟨w.heap.size, 0, none⟩, ⟨w.heap.size, 1, none⟩, ⟨w.heap.size + 1, 0, none⟩, ⟨w.heap.size + 1, 1, none⟩, ⟨w.heap.size + 1 + 1, 0, none⟩, ⟨w.heap.size + 1 + 1, 1, none⟩]) := ⟨fz_c (World.block_lt_of_cell? _ _ p0) f0 (fz_c (World.block_lt_of_cell? _ _ p1) f1 (fz_c (World.block_lt_of_cell? _ _ p2) f2 (fz_c (World.block_lt_of_cell? _ _ p3) f3 (fz_c (World.block_lt_of_cell? _ _ p4) f4 (fz_c (World.block_lt_of_cell? _ _ p5) f5 (fz_n _))))))⟩
      go_wp2_with (go_at_call 72; (with_reducible refine (quo_nat _ _ _ m gk A D c d (HR.out.1) (HR.out.2.1) HR.out.2.2.2.1 HG.out).mono ?_); rintro e w1 ⟨u, E, e1, rfl, hN, hb⟩; have HN1 := Aside0.mk hN; have HD1 := Aside0.mk (HR.out.2.1.below hb); have HBW := Aside0.mk hb; clear hN; have qB0 := kn_b (w0 := w) hb; have qC0 : Kn (CL _ [⟨w.heap.size, 0, none⟩, ⟨w.heap.size, 1, none⟩, ⟨w.heap.size + 1, 0, none⟩, ⟨w.heap.size + 1, 1, none⟩, ⟨w.heap.size + 1 + 1, 0, none⟩, ⟨w.heap.size + 1 + 1, 1, none⟩] [.bool false, .slice A (dig m).length c, .bool false, .slice D (dig gk).length d, .bool false, .slice none 0 0]) := kn_c hb; obtain ⟨q0_0, q0_1, q0_2, q0_3, q0_4, q0_5, -⟩ := qC0.out; have qF0 : Kn (FZ _ [⟨w.heap.size, 0, none⟩, ⟨w.heap.size, 1, none⟩, ⟨w.heap.size + 1, 0, none⟩, ⟨w.heap.size + 1, 1, none⟩, ⟨w.heap.size + 1 + 1, 0, none⟩, ⟨w.heap.size + 1 + 1, 1, none⟩]) := kn_f hb; obtain ⟨⟨-, f0_0⟩, ⟨-, f0_1⟩, ⟨-, f0_2⟩, ⟨-, f0_3⟩, ⟨-, f0_4⟩, ⟨-, f0_5⟩, -⟩ := qF0.out; clear hb)
      obtain ⟨W2, g2, hW2, hg2, b0, b1, hb2⟩ := two_new w1 (.bool false) (.slice u.1 (dig (m / gk)).length u.2) (.bool false) (.slice E (dig (m % gk)).length e1) 85
      rw [← hW2, ← hg2]
      have hsz : w.heap.size + 1 + 1 < w1.heap.size := World.block_lt_of_cell? _ _ q0_5
      have r0 := kc hb2 q0_0; have fz0 := kf hb2 q0_0 f0_0; have r1 := kc hb2 q0_1; have fz1 := kf hb2 q0_1 f0_1; have r2 := kc hb2 q0_2; have fz2 := kf hb2 q0_2 f0_2; have r3 := kc hb2 q0_3; have fz3 := kf hb2 q0_3 f0_3; have r4 := kc hb2 q0_4; have fz4 := kf hb2 q0_4 f0_4; have r5 := kc hb2 q0_5; have fz5 := kf hb2 q0_5 f0_5
      have n1 : ¬ g2 = w.heap.size := by omega
      have n2 : ¬ g2 = w.heap.size + 1 := by omega
      have n3 : ¬ w.heap.size = g2 := by omega
      have n4 : ¬ w.heap.size + 1 = g2 := by omega
      have HB2 := Aside0.mk (below_step qB0.out hb2)
      have HSZ := Aside0.mk hsz
      have HG2 := Aside0.mk hg2
      have HB21 := Aside0.mk hb2
      clear hW2 hg2 hsz hb2
      go_region
      have hgcd : Nat.gcd gk (m % gk) = Nat.gcd M N := by rw [← HR.out.2.2.1, Nat.gcd_comm, ← Nat.gcd_rec, Nat.gcd_comm]
      have hlt : m % gk < gk := Nat.mod_lt _ HG.out
      have hE : WN w1 (fun k => P k ∧ k < w.heap.size ∨ w.heap.size + 1 + 1 + 1 ≤ k) E e1 (m % gk) := HN1.out.mono fun k hk => by
        rcases hk with hk | hk
        · exact hk
        · exact .inr (by
            have : w.heap.size + 1 + 1 < wr.heap.size := World.block_lt_of_cell? _ _ p5
            omega)
      have HGG := Aside0.mk hgcd
      have HE := Aside0.mk hE
      have HLT := Aside0.mk hlt
      clear hgcd hE hlt
      go_wp2
      go_roundg (m % gk)
      case measure => exact HLT.out
      case rel =>
        obtain ⟨s0, s1, s2, s3, s4⟩ := swap_world W2 w.heap.size (.bool false) (.slice D (dig gk).length d) (.bool false) (.slice E (dig (m % gk)).length e1) _ _ _ _ _ _ r0 r1 r2 r3 r4 r5 rfl
        refine ⟨gk, D, E, d, e1, ⟨?_⟩, s0, s1, s2, ⟨?_⟩, ⟨s4 _ _ _ _ ?_ ?_ (HD1.out.below HB21.out), s4 _ _ _ _ ?_ ?_ (HE.out.below HB21.out), HGG.out, HR.out.2.2.2.2, ?_⟩⟩
        · exact below_drew (below_set (below_set (below_set (below_set HB2.out (Nat.le_refl _)) (Nat.le_refl _)) (Nat.le_add_right _ _)) (Nat.le_add_right _ _))
        · intro b i h0 h1
          have z1 : w.heap.size + 1 + 1 < w1.heap.size := HSZ.out
          have z2 : w.heap.size + 1 + 1 < wr.heap.size := World.block_lt_of_cell? _ _ p5
          rw [s3]
          exact (HB21.out.frozen (Nat.lt_of_le_of_lt h1 z1)).trans ((HBW.out.frozen (Nat.lt_of_le_of_lt h1 z2)).trans (HF.out b i h0 h1))
        · exact not_ok (by omega) (by omega)
        · exact not_ok (by omega) (by omega)
        · exact not_ok (by omega) (by omega)
        · exact not_ok (by omega) (by omega)
        · exact Nat.le_trans (dig_len_mono (Nat.le_of_lt HLT.out)) HR.out.2.2.2.2
theorem gcd_any (w : World) (P : Nat → Prop) (u v : Value) (x y : Int) (h0 : BI w P u x) (h1 : BI w P v y) (hm : (dig x.natAbs).length ≤ 35184372088832) (hn : (dig y.natAbs).length ≤ 35184372088832) :
    Calls Try.prog 70 #[u, v] w (NewI w (fun k => P k ∨ w.heap.size ≤ k) (Int.gcd x y)) := by
  obtain ⟨A, c, rfl, hc, hw, ho⟩ := h0
  obtain ⟨B, d, rfl, hd, hv, hp⟩ := h1
  exact gcd_raw w P _ _ _ _ A B c d ⟨hw, hc, ho⟩ ⟨hv, hd, hp⟩ hm hn
end Go.Proofs.Ytlaidcoickeihaa.Nb
