/- The laws of numbers that are no program's: a field in order as far as no none comes, and how Floor, Frac, Round and Mod hang together. -/
import Derived.Test.YtgecbfemlpmpeaaSpec
namespace Go.Proofs.Ytgecbfemlpmpeaa.Plain

theorem addQ_comm (a b : Q) : addQ a b = addQ b a := by
  unfold addQ
  by_cases c : okQ a = true <;> by_cases c2 : okQ b = true <;> simp [c, c2, Int.add_comm, Int.mul_comm]
theorem mulQ_comm (a b : Q) : mulQ a b = mulQ b a := by
  unfold mulQ
  by_cases c : okQ a = true <;> by_cases c2 : okQ b = true <;> simp [c, c2, Int.mul_comm]
theorem addQ_none {a b : Q} (h : ¬ (okQ a = true ∧ okQ b = true)) : addQ a b = (0, 0) := by
  unfold addQ
  by_cases c : okQ a = true <;> by_cases c2 : okQ b = true <;> simp [c, c2] at h ⊢
theorem mulQ_none {a b : Q} (h : ¬ (okQ a = true ∧ okQ b = true)) : mulQ a b = (0, 0) := by
  unfold mulQ
  by_cases c : okQ a = true <;> by_cases c2 : okQ b = true <;> simp [c, c2] at h ⊢
theorem divQ_none {a b : Q} (h : ¬ (okQ a = true ∧ okQ b = true)) : divQ a b = (0, 0) := by
  unfold divQ
  by_cases c : okQ a = true <;> by_cases c2 : okQ b = true <;> simp [c, c2] at h ⊢
theorem modQ_none {a b : Q} (h : ¬ (okQ a = true ∧ okQ b = true)) : modQ a b = (0, 0) := by
  unfold modQ
  by_cases c : okQ a = true <;> by_cases c2 : okQ b = true <;> simp [c, c2] at h ⊢
theorem minQ_none {a b : Q} (h : ¬ (okQ a = true ∧ okQ b = true)) : minQ a b = (0, 0) := by
  unfold minQ
  by_cases c : okQ a = true <;> by_cases c2 : okQ b = true <;> simp [c, c2] at h ⊢
theorem addQ_val {a b : Q} (h : okQ (addQ a b) = true) : okQ a = true ∧ okQ b = true ∧ (addQ a b).1 * (a.2 * b.2) = (a.1 * b.2 + b.1 * a.2) * (addQ a b).2 := by
  by_cases c : okQ a = true ∧ okQ b = true
  · have e : addQ a b = mk (a.1 * b.2 + b.1 * a.2) (a.2 * b.2) := by unfold addQ; rw [if_pos c.1, if_pos c.2]
    rw [e] at h ⊢
    exact ⟨c.1, c.2, (okQ_mk h).2⟩
  · rw [addQ_none c] at h; cases h
theorem mulQ_val {a b : Q} (h : okQ (mulQ a b) = true) : okQ a = true ∧ okQ b = true ∧ (mulQ a b).1 * (a.2 * b.2) = (a.1 * b.1) * (mulQ a b).2 := by
  by_cases c : okQ a = true ∧ okQ b = true
  · have e : mulQ a b = mk (a.1 * b.1) (a.2 * b.2) := by unfold mulQ; rw [if_pos c.1, if_pos c.2]
    rw [e] at h ⊢
    exact ⟨c.1, c.2, (okQ_mk h).2⟩
  · rw [mulQ_none c] at h; cases h
theorem divQ_val {a b : Q} (h : okQ (divQ a b) = true) : okQ a = true ∧ okQ b = true ∧ b.1 ≠ 0 ∧ (divQ a b).1 * (a.2 * b.1) = (a.1 * b.2) * (divQ a b).2 := by
  by_cases c : okQ a = true ∧ okQ b = true
  · have e : divQ a b = mk (a.1 * b.2) (a.2 * b.1) := by unfold divQ; rw [if_pos c.1, if_pos c.2]
    rw [e] at h ⊢
    have := okQ_mk h
    refine ⟨c.1, c.2, ?_, this.2⟩
    intro z
    rw [z, Int.mul_zero] at this
    exact this.1 rfl
  · rw [divQ_none c] at h; cases h
theorem okQ_pos {a : Q} (h : okQ a = true) : 0 < a.2 := by have := okQ_bounds h; omega
theorem val_unique {x y : Q} {n d : Int} (hx : okQ x = true) (hy : okQ y = true) (hd : d ≠ 0) (e1 : x.1 * d = n * x.2) (e2 : y.1 * d = n * y.2) : x = y := by
  have : x.1 * y.2 = y.1 * x.2 := by
    apply Int.eq_of_mul_eq_mul_right hd
    grind
  have := isQ_unique (n := x.1) (d := x.2) (n' := y.1) (d' := y.2) hx hy this
  exact Prod.ext this.1 this.2
theorem add_assoc {a b c : Q} (hx : okQ (addQ (addQ a b) c) = true) (hy : okQ (addQ a (addQ b c)) = true) : addQ (addQ a b) c = addQ a (addQ b c) := by
  obtain ⟨h1, h2, e1⟩ := addQ_val hx
  obtain ⟨h3, h4, e2⟩ := addQ_val h1
  obtain ⟨h5, h6, e3⟩ := addQ_val hy
  obtain ⟨h7, h8, e4⟩ := addQ_val h6
  have pa := okQ_pos h3
  have pb := okQ_pos h4
  have pc := okQ_pos h2
  have ps := okQ_pos h1
  have pt := okQ_pos h6
  generalize addQ (addQ a b) c = x at *
  generalize addQ a (addQ b c) = y at *
  generalize addQ a b = s at *
  generalize addQ b c = t at *
  refine val_unique (n := a.1 * b.2 * c.2 + b.1 * a.2 * c.2 + c.1 * a.2 * b.2) (d := a.2 * b.2 * c.2) hx hy (Int.ne_of_gt (Int.mul_pos (Int.mul_pos pa pb) pc)) ?_ ?_
  · apply Int.eq_of_mul_eq_mul_left (Int.ne_of_gt ps)
    grind
  · apply Int.eq_of_mul_eq_mul_left (Int.ne_of_gt pt)
    grind
theorem distrib {a b c : Q} (hx : okQ (mulQ (addQ a b) c) = true) (hy : okQ (addQ (mulQ a c) (mulQ b c)) = true) : mulQ (addQ a b) c = addQ (mulQ a c) (mulQ b c) := by
  obtain ⟨h1, h2, e1⟩ := mulQ_val hx
  obtain ⟨h3, h4, e2⟩ := addQ_val h1
  obtain ⟨h5, h6, e3⟩ := addQ_val hy
  obtain ⟨_, _, e4⟩ := mulQ_val h5
  obtain ⟨_, _, e5⟩ := mulQ_val h6
  have pa := okQ_pos h3
  have pb := okQ_pos h4
  have pc := okQ_pos h2
  have ps := okQ_pos h1
  have pt := okQ_pos h5
  have pu := okQ_pos h6
  generalize mulQ (addQ a b) c = x at *
  generalize addQ (mulQ a c) (mulQ b c) = y at *
  generalize addQ a b = s at *
  generalize mulQ a c = t at *
  generalize mulQ b c = u at *
  refine val_unique (n := (a.1 * b.2 + b.1 * a.2) * c.1) (d := a.2 * b.2 * c.2) hx hy (Int.ne_of_gt (Int.mul_pos (Int.mul_pos pa pb) pc)) ?_ ?_
  · apply Int.eq_of_mul_eq_mul_left (Int.ne_of_gt ps)
    grind
  · apply Int.eq_of_mul_eq_mul_left (Int.ne_of_gt pc)
    apply Int.eq_of_mul_eq_mul_left (Int.ne_of_gt pu)
    apply Int.eq_of_mul_eq_mul_left (Int.ne_of_gt pt)
    have q1 : y.1 * (t.2 * u.2) * (a.2 * c.2) * (b.2 * c.2) = (t.1 * (a.2 * c.2) * u.2 * (b.2 * c.2) + u.1 * (b.2 * c.2) * t.2 * (a.2 * c.2)) * y.2 := by grind
    rw [e4, e5] at q1
    grind
theorem div_mul {a b : Q} (h : okQ (divQ a b) = true) : mulQ (divQ a b) b = cleanQ a := by
  obtain ⟨h1, h2, h3, e⟩ := divQ_val h
  have pb := okQ_pos h2
  have pd := okQ_pos h
  have pa := okQ_pos h1
  unfold cleanQ
  rw [if_pos h1]
  unfold mulQ
  rw [if_pos h, if_pos h2]
  generalize divQ a b = d at *
  have : (a.1, a.2) = a := rfl
  rw [← this]
  refine mk_of_val (Int.ne_of_gt (Int.mul_pos pd pb)) h1 ?_
  apply Int.eq_of_mul_eq_mul_left h3
  grind
theorem sgn_scaled {x y x' y' p r : Int} (hp : 0 < p) (hr : 0 < r) (h : (x - y) * p = (x' - y') * r) : sgn x y = sgn x' y' := by
  have key : ∀ {u v q s : Int}, 0 < q → 0 < s → u * q = v * s → 0 < u → 0 < v := by
    intro u v q s hq hs he hu
    have h1 := Int.mul_pos hu hq
    rw [he] at h1
    rcases Int.lt_trichotomy v 0 with c | c | c
    · have := Int.mul_neg_of_neg_of_pos c hs; omega
    · subst c; rw [Int.zero_mul] at h1; omega
    · exact c
  have a1 : 0 < x - y → 0 < x' - y' := key hp hr h
  have a2 : 0 < x' - y' → 0 < x - y := key hr hp h.symm
  have h' : (y - x) * p = (y' - x') * r := by
    have e1 : (y - x) * p = -((x - y) * p) := by rw [← Int.neg_mul]; congr 1; omega
    have e2 : (y' - x') * r = -((x' - y') * r) := by rw [← Int.neg_mul]; congr 1; omega
    rw [e1, e2, h]
  have a3 : 0 < y - x → 0 < y' - x' := key hp hr h'
  have a4 : 0 < y' - x' → 0 < y - x := key hr hp h'.symm
  unfold sgn
  by_cases c1 : x < y
  · rw [if_pos c1, if_pos (by omega)]
  · have d1 : ¬ x' < y' := by omega
    rw [if_neg c1, if_neg d1]
    by_cases c2 : x > y
    · have d2 : x' > y' := by omega
      rw [if_pos c2, if_pos d2]
    · have d2 : ¬ x' > y' := by omega
      rw [if_neg c2, if_neg d2]
theorem cmp_shift {a b c : Q} (hx : okQ (addQ a c) = true) (hy : okQ (addQ b c) = true) : cmpQ a b = cmpQ (addQ a c) (addQ b c) := by
  obtain ⟨h1, h2, e1⟩ := addQ_val hx
  obtain ⟨h3, _, e2⟩ := addQ_val hy
  have pa := okQ_pos h1
  have pb := okQ_pos h3
  have pc := okQ_pos h2
  have ps := okQ_pos hx
  have pt := okQ_pos hy
  unfold cmpQ
  rw [if_pos h1, if_pos h3, if_pos hx, if_pos hy]
  generalize addQ a c = s at *
  generalize addQ b c = t at *
  refine sgn_scaled (p := c.2 * c.2 * (s.2 * t.2)) (r := a.2 * b.2 * (c.2 * c.2)) (Int.mul_pos (Int.mul_pos pc pc) (Int.mul_pos ps pt)) (Int.mul_pos (Int.mul_pos pa pb) (Int.mul_pos pc pc)) ?_
  have q1 : s.1 * (a.2 * c.2) * (t.2 * b.2 * c.2) = (a.1 * c.2 + c.1 * a.2) * s.2 * (t.2 * b.2 * c.2) := by rw [e1]
  have q2 : t.1 * (b.2 * c.2) * (s.2 * a.2 * c.2) = (b.1 * c.2 + c.1 * b.2) * t.2 * (s.2 * a.2 * c.2) := by rw [e2]
  grind

/-! Floor, Frac, Round, Mod -/
theorem fracQ_told {a : Q} (h : okQ a = true) : floorQ a = (a.1 / a.2, 1) ∧ okQ (floorQ a) = true ∧ fracQ a = (a.1 % a.2, a.2) ∧ okQ (a.1 % a.2, a.2) = true := by
  have b := okQ_bounds h
  have cp := okQ_coprime h
  have e1 := Int.emod_nonneg a.1 (show a.2 ≠ 0 by omega)
  have e2 := Int.emod_lt_of_pos a.1 (show 0 < a.2 by omega)
  have e3 := Int.mul_ediv_add_emod a.1 a.2
  have q : -1073741824 ≤ a.1 / a.2 ∧ a.1 / a.2 ≤ 1073741824 := by
    constructor
    · rw [Int.le_ediv_iff_mul_le (by omega)]
      have : (-1073741824 : Int) * a.2 ≤ -1073741824 * 1 := Int.mul_le_mul_of_nonpos_left (by omega) (by omega)
      omega
    · by_cases c : 0 ≤ a.1
      · exact Int.le_trans (Int.ediv_le_self _ c) b.2.2.2
      · have := Int.ediv_neg_of_neg_of_pos (a := a.1) (b := a.2) (by omega) (by omega)
        omega
  have f : floorQ a = (a.1 / a.2, 1) := by unfold floorQ; rw [if_pos h, mk_whole q.1 q.2]
  have fo : okQ (floorQ a) = true := by rw [f]; exact okQ_whole q.1 q.2
  have ro : okQ (a.1 % a.2, a.2) = true := by
    unfold okQ
    rw [isQ_iff]
    refine ⟨by simp only; omega, by simp only; omega, by simp only; omega, by simp only; omega, ?_⟩
    simp only
    have e : (a.1 % a.2).natAbs.gcd a.2.natAbs = a.1.natAbs.gcd a.2.natAbs := by
      have := Int.gcd_add_mul_right_left (m := a.2) (n := a.1 % a.2) (k := a.1 / a.2)
      unfold Int.gcd at this
      rw [show a.1 % a.2 + a.1 / a.2 * a.2 = a.1 by rw [Int.mul_comm]; omega] at this
      exact this.symm
    rw [e]; exact cp
  refine ⟨f, fo, ?_, ro⟩
  unfold fracQ subQ
  have n : negQ (floorQ a) = (-(a.1 / a.2), 1) := by unfold negQ; rw [if_pos fo, f]
  have no : okQ (-(a.1 / a.2), 1) = true := okQ_whole (by omega) (by omega)
  rw [n]
  unfold addQ
  rw [if_pos h, if_pos no]
  simp only [Int.mul_one]
  have : a.1 + -(a.1 / a.2) * a.2 = a.1 % a.2 := by
    rw [Int.neg_mul, Int.mul_comm (a.1 / a.2)]; omega
  rw [this]
  exact mk_self ro
theorem floor_frac {a : Q} (h : okQ a = true) : addQ (floorQ a) (fracQ a) = a ∧ ¬ cmpQ (fracQ a) (0, 1) < 0 ∧ ¬ cmpQ (fracQ a) (1, 1) ≥ 0 := by
  obtain ⟨f, fo, r, ro⟩ := fracQ_told h
  have b := okQ_bounds h
  have e1 := Int.emod_nonneg a.1 (show a.2 ≠ 0 by omega)
  have e2 := Int.emod_lt_of_pos a.1 (show 0 < a.2 by omega)
  have e3 := Int.mul_ediv_add_emod a.1 a.2
  rw [r]
  refine ⟨?_, ?_, ?_⟩
  · unfold addQ
    rw [if_pos fo, if_pos ro, f]
    simp only [Int.one_mul, Int.mul_one]
    rw [Int.mul_comm, e3]
    exact mk_self h
  · unfold cmpQ sgn
    rw [if_pos ro, if_pos (okQ_whole (by omega) (by omega))]
    simp only [Int.mul_one, Int.zero_mul]
    rw [if_neg (by omega)]
    split <;> omega
  · unfold cmpQ sgn
    rw [if_pos ro, if_pos (okQ_whole (by omega) (by omega))]
    simp only [Int.mul_one, Int.one_mul]
    rw [if_pos (by omega)]
    omega
theorem fm_told (x y : Int) (hy : y ≠ 0) : (fm x y).natAbs < y.natAbs ∧ (0 < y → 0 ≤ fm x y) ∧ (y < 0 → fm x y ≤ 0) := by
  have h : (Int.tmod x y).natAbs < y.natAbs := by
    rw [Int.natAbs_tmod]
    exact Nat.mod_lt _ (by omega)
  unfold fm
  generalize Int.tmod x y = t at *
  by_cases c : t = 0
  · rw [if_pos c]; omega
  · rw [if_neg c]
    by_cases c2 : t < 0 <;> by_cases c3 : y < 0 <;> simp [c2, c3] <;> omega
theorem mod_told {a b : Q} (hm : okQ (modQ a b) = true) : okQ b = true ∧ ¬ ((modQ a b).1 < 0 ∧ b.1 > 0) ∧ ¬ ((modQ a b).1 > 0 ∧ b.1 < 0) ∧ ¬ cmpQ (absQ (modQ a b)) (absQ b) ≥ 0 := by
  by_cases c : okQ a = true ∧ okQ b = true
  · by_cases c3 : b.1 = 0
    · have : modQ a b = (0, 0) := by unfold modQ; rw [if_pos c.1, if_pos c.2, if_pos c3]
      rw [this] at hm; cases hm
    · have e : modQ a b = mk (fm (a.1 * b.2) (b.1 * a.2)) (a.2 * b.2) := by unfold modQ; rw [if_pos c.1, if_pos c.2, if_neg c3]
      have pa := okQ_pos c.1
      have pb := okQ_pos c.2
      have pm := okQ_pos hm
      have v : (modQ a b).1 * (a.2 * b.2) = fm (a.1 * b.2) (b.1 * a.2) * (modQ a b).2 := by
        rw [e] at hm ⊢
        exact (okQ_mk hm).2
      have y0 : b.1 * a.2 ≠ 0 := by
        intro h
        rcases Int.mul_eq_zero.1 h with h | h <;> omega
      obtain ⟨f1, f2, f3⟩ := fm_told (a.1 * b.2) (b.1 * a.2) y0
      generalize fm (a.1 * b.2) (b.1 * a.2) = f at *
      generalize modQ a b = m at *
      have pd := Int.mul_pos pa pb
      refine ⟨c.2, ?_, ?_, ?_⟩
      · rintro ⟨h1, h2⟩
        have := f2 (Int.mul_pos h2 pa)
        have l := Int.mul_neg_of_neg_of_pos h1 pd
        have r := Int.mul_nonneg this (Int.le_of_lt pm)
        omega
      · rintro ⟨h1, h2⟩
        have := f3 (Int.mul_neg_of_neg_of_pos h2 pa)
        have l := Int.mul_pos h1 pd
        have r := Int.mul_nonneg (show 0 ≤ -f by omega) (Int.le_of_lt pm)
        rw [Int.neg_mul] at r
        omega
      · have am : absQ m = ((m.1.natAbs : Int), m.2) := by unfold absQ; rw [if_pos hm]
        have ab : absQ b = ((b.1.natAbs : Int), b.2) := by unfold absQ; rw [if_pos c.2]
        rw [am, ab]
        unfold cmpQ
        rw [if_pos (absQ_ok hm), if_pos (absQ_ok c.2)]
        have key : (m.1.natAbs : Int) * b.2 < (b.1.natAbs : Int) * m.2 := by
          have e2 : m.1.natAbs * (a.2.natAbs * b.2.natAbs) = f.natAbs * m.2.natAbs := by
            rw [← Int.natAbs_mul, ← Int.natAbs_mul, ← Int.natAbs_mul, v]
          rw [Int.natAbs_mul] at f1
          have e3 : f.natAbs * m.2.natAbs < b.1.natAbs * a.2.natAbs * m.2.natAbs := Nat.mul_lt_mul_of_pos_right f1 (by omega)
          rw [← e2] at e3
          have e4 : a.2.natAbs * (m.1.natAbs * b.2.natAbs) < a.2.natAbs * (b.1.natAbs * m.2.natAbs) := by
            have r1 : a.2.natAbs * (m.1.natAbs * b.2.natAbs) = m.1.natAbs * (a.2.natAbs * b.2.natAbs) := by grind
            have r2 : a.2.natAbs * (b.1.natAbs * m.2.natAbs) = b.1.natAbs * a.2.natAbs * m.2.natAbs := by grind
            rw [r1, r2]; exact e3
          have e5 := Nat.lt_of_mul_lt_mul_left e4
          have e6 : ((m.1.natAbs * b.2.natAbs : Nat) : Int) < ((b.1.natAbs * m.2.natAbs : Nat) : Int) := by omega
          rw [Int.natCast_mul, Int.natCast_mul, show (b.2.natAbs : Int) = b.2 by omega, show (m.2.natAbs : Int) = m.2 by omega] at e6
          exact e6
        unfold sgn
        simp only
        rw [if_pos key]
        omega
  · rw [modQ_none c] at hm; cases hm
theorem round_near {a : Q} (h : okQ a = true) : cmpQ (absQ (subQ (roundQ a) a)) (1, 2) ≤ 0 := by
  have b := okQ_bounds h
  have e1 := Int.emod_nonneg a.1 (show a.2 ≠ 0 by omega)
  have e2 := Int.emod_lt_of_pos a.1 (show 0 < a.2 by omega)
  have e3 := Int.mul_ediv_add_emod a.1 a.2
  have p : a.1 - a.1 / a.2 * a.2 = a.1 % a.2 := by rw [Int.mul_comm]; omega
  have q := (fracQ_told h).1
  have qb : -1073741824 ≤ a.1 / a.2 ∧ a.1 / a.2 ≤ 1073741824 := by
    have := okQ_bounds (fracQ_told h).2.1
    rw [q] at this
    simp only at this
    omega
  -- how far the rounded one is
  have near : -(a.2) ≤ 2 * (roundI a.1 a.2 * a.2 - a.1) ∧ 2 * (roundI a.1 a.2 * a.2 - a.1) ≤ a.2 ∧ (roundI a.1 a.2 = a.1 / a.2 ∨ roundI a.1 a.2 = a.1 / a.2 + 1) := by
    unfold roundI
    rw [p]
    split
    · rename_i hh
      rw [Int.add_mul]
      have : a.1 / a.2 * a.2 = a.1 - a.1 % a.2 := by omega
      rw [this]
      omega
    · rename_i hh
      have : a.1 / a.2 * a.2 = a.1 - a.1 % a.2 := by omega
      rw [this]
      omega
  have rb : -1073741824 ≤ roundI a.1 a.2 ∧ roundI a.1 a.2 ≤ 1073741824 := by
    obtain ⟨n1, n2, n3⟩ := near
    rcases n3 with n3 | n3
    · omega
    · refine ⟨by omega, ?_⟩
      by_cases c : a.1 / a.2 = 1073741824
      · exfalso
        rw [n3, c] at n2
        have : a.2 = 1 := by
          by_cases c2 : a.2 = 1
          · exact c2
          · have : a.1 / a.2 * a.2 ≤ a.1 := by omega
            rw [c] at this
            omega
        rw [this] at n2
        omega
      · omega
  have r : roundQ a = (roundI a.1 a.2, 1) := by unfold roundQ; rw [if_pos h, mk_whole rb.1 rb.2]
  have ro : okQ (roundI a.1 a.2, 1) = true := okQ_whole rb.1 rb.2
  have half : okQ (1, 2) = true := by decide
  rw [r]
  by_cases c : okQ (subQ (roundI a.1 a.2, 1) a) = true
  · have s := c
    unfold subQ at s
    obtain ⟨_, ng, v⟩ := addQ_val s
    have nv : negQ a = (-a.1, a.2) := by unfold negQ; rw [if_pos h]
    unfold subQ at c ⊢
    rw [nv] at v c ⊢
    simp only [Int.one_mul, Int.mul_one] at v
    generalize addQ (roundI a.1 a.2, 1) (-a.1, a.2) = s at *
    have ps := okQ_pos c
    have as : absQ s = ((s.1.natAbs : Int), s.2) := by unfold absQ; rw [if_pos c]
    rw [as]
    unfold cmpQ sgn
    rw [if_pos (absQ_ok c), if_pos half]
    simp only [Int.one_mul]
    have key : (s.1.natAbs : Int) * 2 ≤ s.2 := by
      have w : 2 * (s.1.natAbs * a.2.natAbs) ≤ a.2.natAbs * s.2.natAbs := by
        have e4 : s.1.natAbs * a.2.natAbs = (roundI a.1 a.2 * a.2 + -a.1).natAbs * s.2.natAbs := by rw [← Int.natAbs_mul, ← Int.natAbs_mul, v]
        rw [e4, ← Nat.mul_assoc]
        refine Nat.mul_le_mul_right _ ?_
        omega
      have w2 : a.2.natAbs * (2 * s.1.natAbs) ≤ a.2.natAbs * s.2.natAbs := by
        have r1 : a.2.natAbs * (2 * s.1.natAbs) = 2 * (s.1.natAbs * a.2.natAbs) := by grind
        rw [r1]; exact w
      have := Nat.le_of_mul_le_mul_left w2 (by omega)
      omega
    split
    · omega
    · rw [if_neg (by omega)]; omega
  · have as : absQ (subQ (roundI a.1 a.2, 1) a) = (0, 0) := by unfold absQ; rw [if_neg c]
    rw [as]
    unfold cmpQ
    rw [if_neg (by decide), if_pos half]
    decide
end Go.Proofs.Ytgecbfemlpmpeaa.Plain
