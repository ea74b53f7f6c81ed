/- The operations on numbers and none, as plain Lean, and the laws of a field in order that they keep. -/
import Derived.Test.YtgecbfemlpmpeaaPlain
namespace Go.Proofs.Ytgecbfemlpmpeaa.Plain
open Go.RowKit

abbrev Q := Int × Int
def none' : Q := (0, 0)
def okQ (a : Q) : Bool := isQ a.1 a.2
def addQ (a b : Q) : Q := if okQ a = true then (if okQ b = true then mk (a.1 * b.2 + b.1 * a.2) (a.2 * b.2) else (0, 0)) else (0, 0)
def negQ (a : Q) : Q := if okQ a = true then (-a.1, a.2) else (0, 0)
def subQ (a b : Q) : Q := addQ a (negQ b)
def mulQ (a b : Q) : Q := if okQ a = true then (if okQ b = true then mk (a.1 * b.1) (a.2 * b.2) else (0, 0)) else (0, 0)
def divQ (a b : Q) : Q := if okQ a = true then (if okQ b = true then mk (a.1 * b.2) (a.2 * b.1) else (0, 0)) else (0, 0)
/-- The rest with the sign of the divisor. -/
def fm (x y : Int) : Int := if Int.tmod x y = 0 then Int.tmod x y else if (decide (Int.tmod x y < 0) != decide (y < 0)) = true then Int.tmod x y + y else Int.tmod x y
def modQ (a b : Q) : Q := if okQ a = true then (if okQ b = true then (if b.1 = 0 then (0, 0) else mk (fm (a.1 * b.2) (b.1 * a.2)) (a.2 * b.2)) else (0, 0)) else (0, 0)
def cleanQ (a : Q) : Q := if okQ a = true then a else (0, 0)
def absQ (a : Q) : Q := if okQ a = true then ((a.1.natAbs : Int), a.2) else (0, 0)
def floorQ (a : Q) : Q := if okQ a = true then mk (a.1 / a.2) 1 else (0, 0)
def roundI (n d : Int) : Int := if 2 * (n - n / d * d) > d ∨ (2 * (n - n / d * d) = d ∧ n / d % 2 ≠ 0) then n / d + 1 else n / d
def roundQ (a : Q) : Q := if okQ a = true then mk (roundI a.1 a.2) 1 else (0, 0)
def fracQ (a : Q) : Q := subQ a (floorQ a)
def sgn (x y : Int) : Int := if x < y then -1 else if x > y then 1 else 0
def cmpQ (a b : Q) : Int := if okQ a = true then (if okQ b = true then sgn (a.1 * b.2) (b.1 * a.2) else 1) else (if okQ b = true then -1 else 0)
def minQ (a b : Q) : Q := if okQ a = true then (if okQ b = true then (if cmpQ b a < 0 then b else a) else (0, 0)) else (0, 0)
def maxQ (a b : Q) : Q := if okQ a = true then (if okQ b = true then (if cmpQ b a > 0 then b else a) else (0, 0)) else (0, 0)

/-- Two whole numbers of a machine. -/
def I64 (n : Int) : Prop := -9223372036854775808 ≤ n ∧ n ≤ 9223372036854775807
def I64Q (a : Q) : Prop := I64 a.1 ∧ I64 a.2

theorem okQ_none : okQ (0, 0) = false := rfl
theorem okQ_bounds {a : Q} (h : okQ a = true) : 1 ≤ a.2 ∧ a.2 ≤ 1073741824 ∧ -1073741824 ≤ a.1 ∧ a.1 ≤ 1073741824 := by
  have := isQ_iff.1 h
  omega
theorem okQ_coprime {a : Q} (h : okQ a = true) : Nat.gcd a.1.natAbs a.2.natAbs = 1 := (isQ_iff.1 h).2.2.2.2
theorem mk_I64 (n d : Int) : I64Q (mk n d) := by
  have := mk_bounds n d
  unfold I64Q I64
  omega
theorem addQ_I64 (a b : Q) : I64Q (addQ a b) := by
  unfold addQ
  split
  · split
    · exact mk_I64 _ _
    · unfold I64Q I64; simp
  · unfold I64Q I64; simp
theorem mulQ_I64 (a b : Q) : I64Q (mulQ a b) := by
  unfold mulQ
  split
  · split
    · exact mk_I64 _ _
    · unfold I64Q I64; simp
  · unfold I64Q I64; simp
theorem divQ_I64 (a b : Q) : I64Q (divQ a b) := by
  unfold divQ
  split
  · split
    · exact mk_I64 _ _
    · unfold I64Q I64; simp
  · unfold I64Q I64; simp
theorem modQ_I64 (a b : Q) : I64Q (modQ a b) := by
  unfold modQ
  split
  · split
    · split
      · unfold I64Q I64; simp
      · exact mk_I64 _ _
    · unfold I64Q I64; simp
  · unfold I64Q I64; simp
theorem floorQ_I64 (a : Q) : I64Q (floorQ a) := by
  unfold floorQ
  split
  · exact mk_I64 _ _
  · unfold I64Q I64; simp
theorem roundQ_I64 (a : Q) : I64Q (roundQ a) := by
  unfold roundQ
  split
  · exact mk_I64 _ _
  · unfold I64Q I64; simp
theorem negQ_I64 (a : Q) : I64Q (negQ a) := by
  unfold negQ
  split
  · rename_i h
    have := okQ_bounds h
    unfold I64Q I64
    simp only
    omega
  · unfold I64Q I64; simp
theorem absQ_I64 (a : Q) : I64Q (absQ a) := by
  unfold absQ
  split
  · rename_i h
    have := okQ_bounds h
    unfold I64Q I64
    simp only
    omega
  · unfold I64Q I64; simp
theorem minQ_I64 {a b : Q} (ha : I64Q a) (hb : I64Q b) : I64Q (minQ a b) := by
  unfold minQ
  split
  · split
    · split
      · exact hb
      · exact ha
    · unfold I64Q I64; simp
  · unfold I64Q I64; simp
theorem maxQ_I64 {a b : Q} (ha : I64Q a) (hb : I64Q b) : I64Q (maxQ a b) := by
  unfold maxQ
  split
  · split
    · split
      · exact hb
      · exact ha
    · unfold I64Q I64; simp
  · unfold I64Q I64; simp
theorem cleanQ_I64 {a : Q} (ha : I64Q a) : I64Q (cleanQ a) := by
  unfold cleanQ
  split
  · exact ha
  · unfold I64Q I64; simp

theorem negQ_ok {a : Q} (h : okQ a = true) : okQ (-a.1, a.2) = true := by
  have h1 := isQ_iff.1 h
  unfold okQ
  rw [isQ_iff]
  refine ⟨by simp only; omega, by simp only; omega, by simp only; omega, by simp only; omega, ?_⟩
  simp only [Int.natAbs_neg]
  exact h1.2.2.2.2
theorem absQ_ok {a : Q} (h : okQ a = true) : okQ ((a.1.natAbs : Int), a.2) = true := by
  have h1 := isQ_iff.1 h
  unfold okQ
  rw [isQ_iff]
  refine ⟨by simp only; omega, by simp only; omega, by simp only; omega, by simp only; omega, ?_⟩
  simp only [Int.natAbs_natCast]
  exact h1.2.2.2.2
/-- What counts as a number behind mk. -/
theorem okQ_mk {n d : Int} (h : okQ (mk n d) = true) : d ≠ 0 ∧ (mk n d).1 * d = n * (mk n d).2 := by
  have hd : d ≠ 0 := by
    intro e
    subst e
    rw [mk_zero_den] at h
    cases h
  rcases mk_told n d hd with ⟨h1, _⟩ | ⟨_, h1⟩
  · rw [h1] at h; cases h
  · exact ⟨hd, h1⟩
theorem mk_whole {n : Int} (h0 : -1073741824 ≤ n) (h1 : n ≤ 1073741824) : mk n 1 = (n, 1) :=
  mk_self (by rw [isQ_iff]; refine ⟨by omega, by omega, h0, h1, ?_⟩; simp)
theorem okQ_whole {n : Int} (h0 : -1073741824 ≤ n) (h1 : n ≤ 1073741824) : okQ (n, 1) = true := by
  unfold okQ
  rw [isQ_iff]
  refine ⟨by simp, by simp, h0, h1, ?_⟩
  simp
theorem addQ_zero (a : Q) : addQ (0, 1) a = cleanQ a := by
  unfold addQ cleanQ
  rw [if_pos (okQ_whole (by omega) (by omega))]
  split
  · rename_i h
    simp only [Int.zero_mul, Int.mul_one, Int.one_mul, Int.zero_add]
    exact mk_self h
  · rfl
theorem mulQ_one (a : Q) : mulQ (1, 1) a = cleanQ a := by
  unfold mulQ cleanQ
  rw [if_pos (okQ_whole (by omega) (by omega))]
  split
  · rename_i h
    simp only [Int.one_mul]
    exact mk_self h
  · rfl
end Go.Proofs.Ytgecbfemlpmpeaa.Plain
