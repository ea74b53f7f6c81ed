/- Parts of the proof of SpanNests, joined by program out of this session's own texts. -/
import Derived.Test.YtlibjgmnookakaaDoorZP6
set_option linter.unusedVariables false
set_option linter.unusedSimpArgs false
namespace Go.Proofs.YtlibjgmnookakaaDoor.SSpanNests
open Go.RowKit Go.Proofs.YtlibjgmnookakaaDoor.Wd.PrintWords Go.Proofs.YtlibjgmnookakaaDoor.Plain
theorem w64 {n : Int} (h : I64 n) : wrap64 n = n := by unfold I64 at h; unfold wrap64; omega
theorem wu64 (n : Int) : IntKind.u64.wrap n = n % 18446744073709551616 := by simp [IntKind.wrap, IntKind.bits, IntKind.signed]
theorem ev_pos {α : Type} {c : Prop} [Decidable c] {f g : Nat → Option α} {r : α} (h : c) (k : Ev f r) : Ev (fun n => if c then f n else g n) r := by simpa only [if_pos h] using k
theorem ev_neg {α : Type} {c : Prop} [Decidable c] {f g : Nat → Option α} {r : α} (h : ¬ c) (k : Ev g r) : Ev (fun n => if c then f n else g n) r := by simpa only [if_neg h] using k
theorem ev_const {α : Type} {x : Option α} {r : α} (h : x = some r) : Ev (fun _ => x) r := ⟨0, fun _ _ => h⟩
theorem ev_bind {α β : Type} {x : Option α} {f : Nat → α → Option β} {a : α} {r : β} (h : x = some a) (k : Ev (fun n => f n a) r) : Ev (fun n => x.bind (f n)) r := by
  subst h
  exact k
theorem i64_of {n : Int} (h : (Lit.int .i64 n).wf = true) : I64 n := by
  simp [Lit.wf] at h
  exact h
theorem ev_eq {α : Type} {f : Nat → Option α} {r s : α} (h : Ev f r) (e : r = s) : Ev f s := e ▸ h
theorem ev_ite {α : Type} {c : Prop} [Decidable c] {f g : Nat → Option α} {r s : α} (h : c → Ev f r) (k : ¬ c → Ev g s) : Ev (fun n => if c then f n else g n) (if c then r else s) := by
  by_cases e : c
  · rw [if_pos e]; exact ev_pos e (h e)
  · rw [if_neg e]; exact ev_neg e (k e)
theorem size_is {n : Int} (h : I64 n) : ratio_size.f n = some (n.natAbs : Int) := by
  unfold I64 at h
  unfold ratio_size.f
  simp only [wu64]
  split
  · congr 1; omega
  · congr 1; omega
theorem divisor_l0 : ∀ (b a : Nat), Ev (fun k => ratio_divisor.l0 k (a : Int) (b : Int)) ((Nat.gcd a b : Nat) : Int) := by
  intro b
  induction b using Nat.strongRecOn with
  | ind b ih =>
    intro a
    refine Ev.step (f := fun k => if (b : Int) = 0 then (some (a : Int)) else (ratio_divisor.l0 k (b : Int) (Int.tmod (a : Int) (b : Int)))) (fun k => by simp only [ratio_divisor.l0]) ?_
    by_cases hb : b = 0
    · subst hb
      refine ev_pos rfl (ev_const ?_)
      simp
    · refine ev_neg (by omega) ?_
      have h := ih (a % b) (Nat.mod_lt _ (by omega)) b
      rw [Int.ofNat_tmod] at h
      rw [Nat.gcd_comm, Nat.gcd_rec, Nat.gcd_comm]
      exact h
theorem divisor_ev (a b : Nat) : Ev (fun k => ratio_divisor.f k (a : Int) (b : Int)) ((Nat.gcd a b : Nat) : Int) := divisor_l0 b a
theorem is_ev {a : Q} (h : I64Q a) : Ev (fun k => ratio_Is.f k a.1 a.2) (okQ a) := by
  obtain ⟨n, d⟩ := a
  obtain ⟨h1, h2⟩ := h
  simp only at h1 h2
  show Ev (fun k => ratio_Is.f k n d) (isQ n d)
  unfold ratio_Is.f
  by_cases c1 : d ≥ 1
  · refine ev_pos c1 ?_
    by_cases c2 : d ≤ 1073741824
    · refine ev_pos c2 ?_
      by_cases c3 : n ≥ (-1073741824)
      · refine ev_pos c3 ?_
        by_cases c4 : n ≤ 1073741824
        · refine ev_pos c4 (ev_bind (size_is h1) (ev_bind (size_is h2) (Ev.bind (divisor_ev n.natAbs d.natAbs) (ev_const ?_))))
          congr 1
          rw [Bool.eq_iff_iff, isQ_iff]
          simp only [beq_iff_eq]
          omega
        · exact ev_neg c4 (ev_const (by rw [isQ_false.2 (by omega)]))
      · exact ev_neg c3 (ev_const (by rw [isQ_false.2 (by omega)]))
    · exact ev_neg c2 (ev_const (by rw [isQ_false.2 (by omega)]))
  · exact ev_neg c1 (ev_const (by rw [isQ_false.2 (by omega)]))
theorem rdivisor_l0 : ∀ (b a : Nat), Ev (fun k => serinetteref01_Divisor.l0 k (a : Int) (b : Int)) ((Nat.gcd a b : Nat) : Int) := by
  intro b
  induction b using Nat.strongRecOn with
  | ind b ih =>
    intro a
    refine Ev.step (f := fun k => if (b : Int) = 0 then (some (a : Int)) else (serinetteref01_Divisor.l0 k (b : Int) (Int.tmod (a : Int) (b : Int)))) (fun k => by simp only [serinetteref01_Divisor.l0]) ?_
    by_cases hb : b = 0
    · subst hb
      refine ev_pos rfl (ev_const ?_)
      simp
    · refine ev_neg (by omega) ?_
      have h := ih (a % b) (Nat.mod_lt _ (by omega)) b
      rw [Int.ofNat_tmod] at h
      rw [Nat.gcd_comm, Nat.gcd_rec, Nat.gcd_comm]
      exact h
theorem rdivisor_ev {a b : Int} (ha : I64 a) (hb : I64 b) (ha' : a ≠ -9223372036854775808) (hb' : b ≠ -9223372036854775808) : Ev (fun k => serinetteref01_Divisor.f k a b) ((Nat.gcd a.natAbs b.natAbs : Nat) : Int) := by
  unfold I64 at ha hb
  have j1 : ∀ (x y : Int), x = (a.natAbs : Int) → y = (b.natAbs : Int) → Ev (fun k => serinetteref01_Divisor.j1 k x y) ((Nat.gcd a.natAbs b.natAbs : Nat) : Int) := by
    intro x y hx hy
    subst hx hy
    exact Ev.step (f := fun k => serinetteref01_Divisor.l0 k (a.natAbs : Int) (b.natAbs : Int)) (fun k => by simp only [serinetteref01_Divisor.j1]) (rdivisor_l0 _ _)
  have j0 : ∀ (x : Int), x = (a.natAbs : Int) → Ev (fun k => serinetteref01_Divisor.j0 k x b) ((Nat.gcd a.natAbs b.natAbs : Nat) : Int) := by
    intro x hx
    refine Ev.step (f := fun k => if b < 0 then (serinetteref01_Divisor.j1 k x (wrap64 (-b))) else (serinetteref01_Divisor.j1 k x b)) (fun k => by simp only [serinetteref01_Divisor.j0]) ?_
    by_cases c : b < 0
    · refine ev_pos c (j1 _ _ hx ?_)
      rw [w64 (by unfold I64; omega)]; omega
    · exact ev_neg c (j1 _ _ hx (by omega))
  unfold serinetteref01_Divisor.f
  by_cases c : a < 0
  · refine ev_pos c (j0 _ ?_)
    rw [w64 (by unfold I64; omega)]; omega
  · exact ev_neg c (j0 _ (by omega))
theorem ris_ev {a : Q} (h : I64Q a) : Ev (fun k => serinetteref01_Is.f k a.1 a.2) (okQ a) := by
  obtain ⟨n, d⟩ := a
  obtain ⟨h1, h2⟩ := h
  simp only at h1 h2
  show Ev (fun k => serinetteref01_Is.f k n d) (isQ n d)
  unfold serinetteref01_Is.f
  by_cases c1 : d ≥ 1
  · refine ev_pos c1 ?_
    by_cases c2 : d ≤ 1073741824
    · refine ev_pos c2 ?_
      by_cases c3 : n ≥ (-1073741824)
      · refine ev_pos c3 ?_
        by_cases c4 : n ≤ 1073741824
        · refine ev_pos c4 (Ev.bind (rdivisor_ev h1 h2 (by omega) (by omega)) (ev_const ?_))
          congr 1
          rw [Bool.eq_iff_iff, isQ_iff]
          simp only [beq_iff_eq]
          omega
        · exact ev_neg c4 (ev_const (by rw [isQ_false.2 (by omega)]))
      · exact ev_neg c3 (ev_const (by rw [isQ_false.2 (by omega)]))
    · exact ev_neg c2 (ev_const (by rw [isQ_false.2 (by omega)]))
  · exact ev_neg c1 (ev_const (by rw [isQ_false.2 (by omega)]))
theorem mul_bound {x y A B : Int} (h1 : -A ≤ x) (h2 : x ≤ A) (h3 : -B ≤ y) (h4 : y ≤ B) : -(A * B) ≤ x * y ∧ x * y ≤ A * B := by
  have hx : x.natAbs ≤ A.toNat := by omega
  have hy : y.natAbs ≤ B.toNat := by omega
  have h := Nat.mul_le_mul hx hy
  rw [← Int.natAbs_mul] at h
  have e : ((A.toNat * B.toNat : Nat) : Int) = A * B := by
    rw [Int.natCast_mul, Int.toNat_of_nonneg (by omega), Int.toNat_of_nonneg (by omega)]
  omega
theorem okQ_mul {a b : Q} (ha : okQ a = true) (hb : okQ b = true) :
    (-1152921504606846976 ≤ a.1 * b.2 ∧ a.1 * b.2 ≤ 1152921504606846976) ∧ (-1152921504606846976 ≤ b.1 * a.2 ∧ b.1 * a.2 ≤ 1152921504606846976) ∧ (-1152921504606846976 ≤ a.2 * b.2 ∧ a.2 * b.2 ≤ 1152921504606846976) ∧ (-1152921504606846976 ≤ a.1 * b.1 ∧ a.1 * b.1 ≤ 1152921504606846976) ∧ (-1152921504606846976 ≤ a.2 * b.1 ∧ a.2 * b.1 ≤ 1152921504606846976) := by
  have h1 := okQ_bounds ha
  have h2 := okQ_bounds hb
  exact ⟨mul_bound (A := 1073741824) (B := 1073741824) (by omega) (by omega) (by omega) (by omega), mul_bound (A := 1073741824) (B := 1073741824) (by omega) (by omega) (by omega) (by omega), mul_bound (A := 1073741824) (B := 1073741824) (by omega) (by omega) (by omega) (by omega), mul_bound (A := 1073741824) (B := 1073741824) (by omega) (by omega) (by omega) (by omega), mul_bound (A := 1073741824) (B := 1073741824) (by omega) (by omega) (by omega) (by omega)⟩
theorem sign_is (x y : Int) : ratio_sign.f (decide (x < y)) (decide (x > y)) = some (sgn x y) := by
  unfold ratio_sign.f sgn
  by_cases c : x < y
  · simp [c]
  · by_cases c2 : x > y
    · simp [c, c2]
    · simp [c, c2]
theorem cmp_ev {a b : Q} (ha : I64Q a) (hb : I64Q b) : Ev (fun k => ratio_Cmp.f k a.1 a.2 b.1 b.2) (cmpQ a b) := by
  unfold ratio_Cmp.f cmpQ
  refine Ev.bind (is_ev ha) (Ev.bind (is_ev hb) ?_)
  by_cases c : okQ a = true
  · rw [if_pos c]
    refine ev_pos c ?_
    refine Ev.step (fun k => ratio_Cmp.j0.eq_2 ..) ?_
    by_cases c2 : okQ b = true
    · rw [if_pos c2]
      refine ev_neg (by simp [c2]) ?_
      have m := okQ_mul c c2
      rw [w64 (n := a.1 * b.2) (by unfold I64; omega), w64 (n := b.1 * a.2) (by unfold I64; omega)]
      exact ev_bind (sign_is _ _) (ev_const rfl)
    · rw [if_neg c2]
      rw [Bool.not_eq_true] at c2
      refine ev_pos (by simp [c2]) (ev_pos c (ev_const ?_))
      rw [c2]
      rfl
  · rw [if_neg c]
    refine ev_neg c ?_
    refine Ev.step (fun k => ratio_Cmp.j0.eq_2 ..) ?_
    refine ev_pos rfl (ev_neg c (ev_const ?_))
    by_cases c2 : okQ b = true
    · rw [if_pos c2, c2]; rfl
    · rw [if_neg c2]
      rw [Bool.not_eq_true] at c2
      rw [c2]; rfl
theorem rcmp_ev {a b : Q} (ha : I64Q a) (hb : I64Q b) : Ev (fun k => serinetteref01_Cmp.f k a.1 a.2 b.1 b.2) (cmpQ a b) := by
  unfold serinetteref01_Cmp.f cmpQ
  refine Ev.bind (ris_ev ha) ?_
  by_cases c : okQ a = true
  · rw [if_pos c]
    refine ev_pos c ?_
    refine Ev.step (fun k => serinetteref01_Cmp.j0.eq_2 ..) ?_
    refine ev_neg (by decide) (Ev.bind (ris_ev ha) (ev_pos c (Ev.bind (ris_ev hb) ?_)))
    by_cases c2 : okQ b = true
    · refine ev_eq (ev_pos c2 ?_) (if_pos c2).symm
      have m := okQ_mul c c2
      rw [w64 (n := a.1 * b.2) (by unfold I64; omega), w64 (n := b.1 * a.2) (by unfold I64; omega)]
      unfold sgn
      refine ev_ite (fun _ => ev_const rfl) (fun _ => ev_ite (fun _ => ev_const rfl) (fun _ => ev_const rfl))
    · exact ev_eq (ev_neg c2 (ev_const rfl)) (if_neg c2).symm
  · rw [if_neg c]
    refine ev_neg c (Ev.bind (ris_ev hb) ?_)
    refine Ev.step (fun k => serinetteref01_Cmp.j0.eq_2 ..) ?_
    by_cases c2 : okQ b = true
    · rw [if_pos c2]
      exact ev_neg (by simp [c2]) (Ev.bind (ris_ev ha) (ev_neg c (ev_const rfl)))
    · rw [if_neg c2]
      exact ev_pos (by simp [c2]) (ev_const rfl)
def validQ (a : Q) : Bool := okQ a || (a.1 == 0 && a.2 == 0)
theorem valid_ev {a : Q} (ha : I64Q a) : Ev (fun k => ratio_Valid.f k a.1 a.2) (validQ a) := by
  unfold ratio_Valid.f validQ
  by_cases c : (a.1 == 0 && (a.2 == 0)) = true
  · exact ev_pos c (ev_const (by rw [c]; simp))
  · refine ev_neg c (Ev.bind (is_ev ha) (ev_const ?_))
    rw [Bool.not_eq_true] at c
    rw [c]; simp
theorem rvalid_ev {a : Q} (ha : I64Q a) : Ev (fun k => serinetteref01_Valid.f k a.1 a.2) (validQ a) := by
  unfold serinetteref01_Valid.f validQ
  refine Ev.bind (ris_ev ha) ?_
  by_cases c : okQ a = true
  · exact ev_pos c (ev_const (by rw [c]; simp))
  · refine ev_neg c ?_
    rw [Bool.not_eq_true] at c
    by_cases c2 : a.1 = 0
    · exact ev_pos c2 (ev_const (by rw [c]; simp [c2]))
    · exact ev_neg c2 (ev_const (by rw [c]; simp [c2]))
theorem min_none (a b : Q) : Ev (fun k => ratio_Min.j0 k true a.1 a.2 b.1 b.2) (0, 0) := by
  refine Ev.step (fun k => ratio_Min.j0.eq_2 ..) (ev_pos rfl (ev_const rfl))
theorem min_ev {a b : Q} (ha : I64Q a) (hb : I64Q b) : Ev (fun k => ratio_Min.f k a.1 a.2 b.1 b.2) (minQ a b) := by
  unfold ratio_Min.f minQ
  refine Ev.bind (is_ev ha) (ev_ite (fun c => Ev.bind (is_ev hb) ?_) (fun _ => min_none a b))
  by_cases c2 : okQ b = true
  · rw [if_pos c2, c2]
    refine Ev.step (fun k => ratio_Min.j0.eq_2 ..) (ev_neg (by decide) (Ev.bind (cmp_ev hb ha) ?_))
    exact ev_ite (fun _ => ev_const rfl) (fun _ => ev_const rfl)
  · rw [if_neg c2]
    rw [Bool.not_eq_true] at c2
    rw [c2]
    exact min_none a b
theorem max_none (a b : Q) : Ev (fun k => ratio_Max.j0 k true a.1 a.2 b.1 b.2) (0, 0) := by
  refine Ev.step (fun k => ratio_Max.j0.eq_2 ..) (ev_pos rfl (ev_const rfl))
theorem max_ev {a b : Q} (ha : I64Q a) (hb : I64Q b) : Ev (fun k => ratio_Max.f k a.1 a.2 b.1 b.2) (maxQ a b) := by
  unfold ratio_Max.f maxQ
  refine Ev.bind (is_ev ha) (ev_ite (fun c => Ev.bind (is_ev hb) ?_) (fun _ => max_none a b))
  by_cases c2 : okQ b = true
  · rw [if_pos c2, c2]
    refine Ev.step (fun k => ratio_Max.j0.eq_2 ..) (ev_neg (by decide) (Ev.bind (cmp_ev hb ha) ?_))
    exact ev_ite (fun _ => ev_const rfl) (fun _ => ev_const rfl)
  · rw [if_neg c2]
    rw [Bool.not_eq_true] at c2
    rw [c2]
    exact max_none a b
abbrev tupS (s : Sq) : Int × Int × Int × Int × Int × Bool × Bool := (s.lo.1, s.lo.2, s.hi.1, s.hi.2, s.den, s.no, s.em)
structure I64S (s : Sq) : Prop where
  lo : I64Q s.lo
  hi : I64Q s.hi
  d : I64 s.den
theorem I64Q_ok {a : Q} (h : okQ a = true) : I64Q a := by have := okQ_bounds h; unfold I64Q I64; omega
theorem endQ_I64 {a : Q} (h : EndQ a) : I64Q a := by
  rcases h with h | h
  · exact I64Q_ok h
  · rw [h]; unfold I64Q I64; simp
theorem okS_i64 {s : Sq} (h : OkS s) : I64S s := ⟨endQ_I64 h.lo, endQ_I64 h.hi, by have := h.d0; have := h.d1; unfold I64; omega⟩
theorem validQ_iff (a : Q) : validQ a = true ↔ EndQ a := by
  obtain ⟨a1, a2⟩ := a
  unfold validQ EndQ
  simp
def bodyB (s : Sq) : Bool := if s.em = true then (if (s.lo.1 == 0 && (s.lo.2 == 0)) = true then (if (s.hi.1 == 0 && (s.hi.2 == 0)) = true then (s.den == 0) else false) else false) else (if okQ s.lo = true then (if okQ s.hi = true then decide (cmpQ s.lo s.hi ≤ 0) else true) else true)
def okB (s : Sq) : Bool := if validQ s.lo = true then (if validQ s.hi = true then (if s.den < 0 then false else if decide (s.den > 1073741824) = true then false else bodyB s) else false) else false
theorem svalid_j0 {s : Sq} (hs : I64S s) (c : Bool) : Ev (fun k => span_Valid.j0 k c s.lo.1 s.lo.2 s.hi.1 s.hi.2 s.den s.no s.em) (if c = true then false else bodyB s) :=
  Ev.step (fun k => span_Valid.j0.eq_2 ..) (ev_ite (fun _ => ev_const rfl) (fun _ => ev_ite (fun _ => ev_ite (fun _ => ev_ite (fun _ => ev_const rfl) (fun _ => ev_const rfl)) (fun _ => ev_const rfl)) (fun _ => Ev.bind (is_ev hs.lo) (ev_ite (fun _ => Ev.bind (is_ev hs.hi) (ev_ite (fun _ => Ev.bind (cmp_ev hs.lo hs.hi) (ev_const rfl)) (fun _ => ev_const rfl))) (fun _ => ev_const rfl)))))
theorem svalid_ev {s : Sq} (hs : I64S s) : Ev (fun k => span_Valid.f k s.lo.1 s.lo.2 s.hi.1 s.hi.2 s.den s.no s.em) (okB s) := by
  unfold span_Valid.f okB
  exact Ev.bind (valid_ev hs.lo) (ev_ite (fun _ => Ev.bind (valid_ev hs.hi) (ev_ite (fun _ => ev_ite (fun _ => ev_eq (svalid_j0 hs true) rfl) (fun _ => svalid_j0 hs _)) (fun _ => ev_eq (svalid_j0 hs true) rfl))) (fun _ => ev_eq (svalid_j0 hs true) rfl))
theorem okB_iff (s : Sq) : okB s = true ↔ OkS s := by
  unfold okB
  by_cases v1 : validQ s.lo = true
  · by_cases v2 : validQ s.hi = true
    · rw [if_pos v1, if_pos v2]
      rw [validQ_iff] at v1 v2
      by_cases d0 : s.den < 0
      · rw [if_pos d0]; exact ⟨fun h => (by cases h), fun h => absurd h.d0 (by omega)⟩
      · by_cases d1 : s.den > 1073741824
        · rw [if_neg d0, if_pos (decide_eq_true d1)]; exact ⟨fun h => (by cases h), fun h => absurd h.d1 (by omega)⟩
        · rw [if_neg d0, if_neg (by simpa using d1)]
          unfold bodyB
          by_cases e : s.em = true
          · rw [if_pos e]
            constructor
            · intro h
              split at h
              · split at h
                · rename_i a b
                  simp at a b h
                  exact ⟨v1, v2, by omega, by omega, fun _ => ⟨Prod.ext a.1 a.2, Prod.ext b.1 b.2, h⟩, fun k => (by rw [e] at k; cases k)⟩
                · cases h
              · cases h
            · intro h
              obtain ⟨a, b, c⟩ := h.em e
              rw [a, b, c]; rfl
          · rw [if_neg e]
            have e' : s.em = false := by simpa using e
            constructor
            · intro h
              refine ⟨v1, v2, by omega, by omega, fun k => absurd k e, fun _ o1 o2 => ?_⟩
              rw [if_pos o1, if_pos o2] at h
              exact (cmp_le o1 o2).1 (of_decide_eq_true h)
            · intro h
              split
              · rename_i o1
                split
                · rename_i o2
                  exact decide_eq_true ((cmp_le o1 o2).2 (h.le e' o1 o2))
                · rfl
              · rfl
    · rw [if_pos v1, if_neg v2]; exact ⟨fun h => (by cases h), fun h => absurd ((validQ_iff _).2 h.hi) v2⟩
  · rw [if_neg v1]; exact ⟨fun h => (by cases h), fun h => absurd ((validQ_iff _).2 h.lo) v1⟩
def allS : Sq := ⟨(0, 0), (0, 0), 0, true, false⟩
theorem all_ok : OkS allS := ⟨.inr rfl, .inr rfl, by simp [allS], by simp [allS], fun h => (by simp [allS] at h), fun _ o => absurd o end_none⟩
def cleanS (s : Sq) : Sq := if okB s = true then s else allS
theorem clean_okS (s : Sq) : OkS (cleanS s) := by
  unfold cleanS
  split
  · rename_i h; exact (okB_iff s).1 h
  · exact all_ok
theorem clean_self {s : Sq} (h : OkS s) : cleanS s = s := by unfold cleanS; rw [if_pos ((okB_iff s).2 h)]
theorem sclean_ev {s : Sq} (hs : I64S s) : Ev (fun k => span_valid.f k s.lo.1 s.lo.2 s.hi.1 s.hi.2 s.den s.no s.em) (tupS (cleanS s)) := by
  unfold span_valid.f
  refine Ev.bind (svalid_ev hs) ?_
  by_cases h : okB s = true
  · have e : cleanS s = s := by unfold cleanS; rw [if_pos h]
    rw [e]; exact ev_pos h (ev_const rfl)
  · have e : cleanS s = allS := by unfold cleanS; rw [if_neg h]
    rw [e]; exact ev_neg h (ev_const rfl)
def denB (c : Sq) (q : Q) : Bool := if c.den = 0 then true else (Int.tmod c.den q.2 == 0)
def hiB (c : Sq) (q : Q) : Bool := if okQ c.hi = true then (if cmpQ q c.hi > 0 then false else denB c q) else denB c q
def hasB (c : Sq) (q : Q) : Bool := if okQ q = true then (if c.em = true then false else (if okQ c.lo = true then (if cmpQ q c.lo < 0 then false else hiB c q) else hiB c q)) else c.no
theorem denB_iff (c : Sq) (q : Q) : denB c q = true ↔ (c.den = 0 ∨ q.2 ∣ c.den) := by
  unfold denB
  split
  · rename_i h; simp [h]
  · rename_i h; simp [h, Int.dvd_iff_tmod_eq_zero]
theorem hiB_iff {c : Sq} {q : Q} (hq : okQ q = true) : hiB c q = true ↔ ((okQ c.hi = true → leQ q c.hi) ∧ (c.den = 0 ∨ q.2 ∣ c.den)) := by
  unfold hiB
  by_cases o : okQ c.hi = true
  · rw [if_pos o]
    by_cases h : cmpQ q c.hi > 0
    · rw [if_pos h]
      exact ⟨fun k => (by cases k), fun k => absurd (k.1 o) ((cmp_gt hq o).1 h)⟩
    · rw [if_neg h, denB_iff]
      rw [cmp_gt hq o] at h
      exact ⟨fun k => ⟨fun _ => Classical.not_not.1 h, k⟩, fun k => k.2⟩
  · rw [if_neg o, denB_iff]
    exact ⟨fun k => ⟨fun k2 => absurd k2 o, k⟩, fun k => k.2⟩
theorem hasB_iff (c : Sq) (q : Q) : hasB c q = true ↔ In c q := by
  unfold hasB In
  by_cases hq : okQ q = true
  · rw [if_pos hq, if_pos hq]
    by_cases e : c.em = true
    · rw [if_pos e]; exact ⟨fun k => (by cases k), fun k => (by rw [k.1] at e; cases e)⟩
    · rw [if_neg e]
      have e' : c.em = false := by simpa using e
      by_cases o : okQ c.lo = true
      · rw [if_pos o]
        by_cases h : cmpQ q c.lo < 0
        · rw [if_pos h]
          exact ⟨fun k => (by cases k), fun k => absurd (k.2.1 o) ((cmp_lt hq o).1 h)⟩
        · rw [if_neg h, hiB_iff hq]
          rw [cmp_lt hq o] at h
          exact ⟨fun k => ⟨e', fun _ => Classical.not_not.1 h, k.1, k.2⟩, fun k => ⟨k.2.2.1, k.2.2.2⟩⟩
      · rw [if_neg o, hiB_iff hq]
        exact ⟨fun k => ⟨e', fun k2 => absurd k2 o, k.1, k.2⟩, fun k => ⟨k.2.2.1, k.2.2.2⟩⟩
  · rw [if_neg hq, if_neg hq]
theorem den_ev {c : Sq} {q : Q} (o : okQ q = true) : Ev (fun _ : Nat => if c.den = 0 then some true else (if q.2 = 0 then none else some ((Int.tmod c.den q.2) == 0))) (denB c q) := by
  unfold denB
  have := okQ_pos o
  exact ev_ite (fun _ => ev_const rfl) (fun _ => ev_neg (by omega) (ev_const rfl))
theorem shas_j0 {c : Sq} {q : Q} (o : okQ q = true) (b : Bool) : Ev (fun k => span_Has.j0 k b c.lo.1 c.lo.2 c.hi.1 c.hi.2 c.den c.no c.em q.1 q.2) (if b = true then false else denB c q) :=
  Ev.step (fun k => span_Has.j0.eq_2 ..) (ev_ite (fun _ => ev_const rfl) (fun _ => den_ev o))
theorem thas_j0 {c : Sq} {q : Q} (o : okQ q = true) (b : Bool) : Ev (fun k => serinetteref03_Has.j0 k b c.lo.1 c.lo.2 c.hi.1 c.hi.2 c.den c.no c.em q.1 q.2) (if b = true then false else denB c q) :=
  Ev.step (fun k => serinetteref03_Has.j0.eq_2 ..) (ev_ite (fun _ => ev_const rfl) (fun _ => den_ev o))
theorem shas_ev {s : Sq} {q : Q} (hs : I64S s) (hq : I64Q q) : Ev (fun k => span_Has.f k s.lo.1 s.lo.2 s.hi.1 s.hi.2 s.den s.no s.em q.1 q.2) (hasB (cleanS s) q) := by
  unfold span_Has.f hasB
  have hi := okS_i64 (clean_okS s)
  have T : okQ q = true → Ev (fun k => (ratio_Is.f k (cleanS s).hi.1 (cleanS s).hi.2).bind fun t160 => (if t160 = true then ((ratio_Cmp.f k q.1 q.2 (cleanS s).hi.1 (cleanS s).hi.2).bind fun t161 => span_Has.j0 k (decide (t161 > 0)) (cleanS s).lo.1 (cleanS s).lo.2 (cleanS s).hi.1 (cleanS s).hi.2 (cleanS s).den (cleanS s).no (cleanS s).em q.1 q.2) else span_Has.j0 k false (cleanS s).lo.1 (cleanS s).lo.2 (cleanS s).hi.1 (cleanS s).hi.2 (cleanS s).den (cleanS s).no (cleanS s).em q.1 q.2)) (hiB (cleanS s) q) := fun o => by
    refine Ev.bind (is_ev hi.hi) ?_
    unfold hiB
    by_cases o2 : okQ (cleanS s).hi = true
    · simp only [if_pos o2]
      refine Ev.bind (cmp_ev hq hi.hi) (ev_eq (shas_j0 o _) ?_)
      by_cases h : cmpQ q (cleanS s).hi > 0 <;> simp [h]
    · simp only [if_neg o2]
      exact ev_eq (shas_j0 o false) (by simp)
  exact Ev.bind (sclean_ev hs) (Ev.bind (is_ev hq) (ev_ite (fun o => ev_ite (fun _ => ev_eq (shas_j0 o true) (if_pos rfl)) (fun _ => Ev.bind (is_ev hi.lo) (ev_ite (fun _ => Ev.bind (cmp_ev hq hi.lo) (ev_ite (fun _ => ev_eq (shas_j0 o true) (if_pos rfl)) (fun _ => T o))) (fun _ => T o)))) (fun _ => ev_const rfl)))
theorem tvalid_j0 {s : Sq} (hs : I64S s) (c : Bool) : Ev (fun k => serinetteref03_Valid.j0 k c s.lo.1 s.lo.2 s.hi.1 s.hi.2 s.den s.no s.em) (if c = true then false else (if okQ s.lo = true then (if okQ s.hi = true then decide (cmpQ s.lo s.hi ≤ 0) else true) else true)) :=
  Ev.step (fun k => serinetteref03_Valid.j0.eq_2 ..) (ev_ite (fun _ => ev_const rfl) (fun _ => Ev.bind (ris_ev hs.lo) (ev_ite (fun _ => Ev.bind (ris_ev hs.hi) (ev_ite (fun _ => Ev.bind (rcmp_ev hs.lo hs.hi) (ev_const rfl)) (fun _ => ev_const rfl))) (fun _ => ev_const rfl))))
theorem zeroQ {a : Q} : (a.1 == 0 && (a.2 == 0)) = true ↔ a = (0, 0) := by
  obtain ⟨a1, a2⟩ := a
  simp
theorem tvalid_ev {s : Sq} (hs : I64S s) : Ev (fun k => serinetteref03_Valid.f k s.lo.1 s.lo.2 s.hi.1 s.hi.2 s.den s.no s.em) (okB s) := by
  unfold serinetteref03_Valid.f
  by_cases e : s.em = true
  · refine ev_pos e (Ev.bind (g := fun _ => serinetteref01_None.f) (a := (0, 0)) (ev_const rfl) ?_)
    by_cases h1 : (s.lo.1 == 0 && (s.lo.2 == 0)) = true
    · refine ev_pos h1 (Ev.bind (g := fun _ => serinetteref01_None.f) (a := (0, 0)) (ev_const rfl) ?_)
      by_cases h2 : (s.hi.1 == 0 && (s.hi.2 == 0)) = true
      · refine ev_pos h2 (ev_const ?_)
        rw [zeroQ] at h1 h2
        congr 1
        rw [Bool.eq_iff_iff, okB_iff]
        constructor
        · intro d
          have d : s.den = 0 := by simpa using d
          exact ⟨.inr h1, .inr h2, by omega, by omega, fun _ => ⟨h1, h2, d⟩, fun k => (by rw [e] at k; cases k)⟩
        · intro k
          simpa using (k.em e).2.2
      · refine ev_neg h2 (ev_const ?_)
        congr 1
        rw [zeroQ] at h2
        symm; rw [Bool.eq_false_iff, Ne, okB_iff]
        exact fun k => h2 (k.em e).2.1
    · refine ev_neg h1 (ev_const ?_)
      congr 1
      rw [zeroQ] at h1
      symm; rw [Bool.eq_false_iff, Ne, okB_iff]
      exact fun k => h1 (k.em e).1
  · refine ev_neg e (ev_eq (Ev.bind (rvalid_ev hs.lo) (ev_ite (fun _ => Ev.bind (rvalid_ev hs.hi) (ev_ite (fun _ => ev_ite (fun _ => ev_eq (tvalid_j0 hs true) rfl) (fun _ => tvalid_j0 hs _)) (fun _ => ev_eq (tvalid_j0 hs true) rfl))) (fun _ => ev_eq (tvalid_j0 hs true) rfl))) ?_)
    unfold okB bodyB
    rw [if_neg e]
    rfl
theorem tclean_ev {s : Sq} (hs : I64S s) : Ev (fun k => serinetteref03_Clean.f k s.lo.1 s.lo.2 s.hi.1 s.hi.2 s.den s.no s.em) (tupS (cleanS s)) := by
  unfold serinetteref03_Clean.f
  refine Ev.bind (tvalid_ev hs) ?_
  by_cases h : okB s = true
  · have e : cleanS s = s := by unfold cleanS; rw [if_pos h]
    rw [e]; exact ev_pos h (ev_const rfl)
  · have e : cleanS s = allS := by unfold cleanS; rw [if_neg h]
    rw [e]; exact ev_neg h (ev_const rfl)
theorem thas_ev {s : Sq} {q : Q} (hs : I64S s) (hq : I64Q q) : Ev (fun k => serinetteref03_Has.f k s.lo.1 s.lo.2 s.hi.1 s.hi.2 s.den s.no s.em q.1 q.2) (hasB (cleanS s) q) := by
  unfold serinetteref03_Has.f hasB
  have hi := okS_i64 (clean_okS s)
  have T : okQ q = true → Ev (fun k => (serinetteref01_Is.f k (cleanS s).hi.1 (cleanS s).hi.2).bind fun t160 => (if t160 = true then ((serinetteref01_Cmp.f k q.1 q.2 (cleanS s).hi.1 (cleanS s).hi.2).bind fun t161 => serinetteref03_Has.j0 k (decide (t161 > 0)) (cleanS s).lo.1 (cleanS s).lo.2 (cleanS s).hi.1 (cleanS s).hi.2 (cleanS s).den (cleanS s).no (cleanS s).em q.1 q.2) else serinetteref03_Has.j0 k false (cleanS s).lo.1 (cleanS s).lo.2 (cleanS s).hi.1 (cleanS s).hi.2 (cleanS s).den (cleanS s).no (cleanS s).em q.1 q.2)) (hiB (cleanS s) q) := fun o => by
    refine Ev.bind (ris_ev hi.hi) ?_
    unfold hiB
    by_cases o2 : okQ (cleanS s).hi = true
    · simp only [if_pos o2]
      refine Ev.bind (rcmp_ev hq hi.hi) (ev_eq (thas_j0 o _) ?_)
      by_cases h : cmpQ q (cleanS s).hi > 0 <;> simp [h]
    · simp only [if_neg o2]
      exact ev_eq (thas_j0 o false) (by simp)
  exact Ev.bind (tclean_ev hs) (Ev.bind (ris_ev hq) (ev_ite (fun o => ev_ite (fun _ => ev_eq (thas_j0 o true) (if_pos rfl)) (fun _ => Ev.bind (ris_ev hi.lo) (ev_ite (fun _ => Ev.bind (rcmp_ev hq hi.lo) (ev_ite (fun _ => ev_eq (thas_j0 o true) (if_pos rfl)) (fun _ => T o))) (fun _ => T o)))) (fun _ => ev_const rfl)))
theorem sdivisor_l0 : ∀ (b a : Nat), Ev (fun k => span_divisor.l0 k (a : Int) (b : Int)) ((Nat.gcd a b : Nat) : Int) := by
  intro b
  induction b using Nat.strongRecOn with
  | ind b ih =>
    intro a
    refine Ev.step (fun k => span_divisor.l0.eq_2 ..) ?_
    by_cases hb : b = 0
    · subst hb
      refine ev_pos rfl (ev_const ?_)
      simp
    · refine ev_neg (by omega) ?_
      have h := ih (a % b) (Nat.mod_lt _ (by omega)) b
      rw [Int.ofNat_tmod] at h
      rw [Nat.gcd_comm, Nat.gcd_rec, Nat.gcd_comm]
      exact h
theorem comm_ev {a b : Int} (ha : 0 ≤ a) (ha2 : a ≤ 1073741824) (hb : 0 ≤ b) (hb2 : b ≤ 1073741824) : Ev (fun k => span_common.f k a b) (comm a b) := by
  have no : ∀ x y : Int, Ev (fun k => span_common.j0 k x y true) 0 := fun x y => Ev.step (fun k => span_common.j0.eq_2 ..) (ev_pos rfl (ev_const rfl))
  unfold span_common.f comm
  by_cases h0 : a = 0
  · rw [if_pos (show a = 0 ∨ b = 0 from .inl h0)]; exact ev_pos h0 (no _ _)
  · refine ev_neg h0 ?_
    by_cases h1 : b = 0
    · rw [if_pos (show a = 0 ∨ b = 0 from .inr h1)]
      rw [show (b == 0) = true by simpa using h1]
      exact no _ _
    · rw [if_neg (show ¬ (a = 0 ∨ b = 0) by omega)]
      rw [show (b == 0) = false by simpa using h1]
      obtain ⟨m, rfl⟩ : ∃ m : Nat, a = m := ⟨a.toNat, by omega⟩
      obtain ⟨n, rfl⟩ : ∃ n : Nat, b = n := ⟨b.toNat, by omega⟩
      have hd : Ev (fun k => span_divisor.f k (m : Int) (n : Int)) ((Nat.gcd m n : Nat) : Int) := sdivisor_l0 n m
      refine Ev.step (fun k => span_common.j0.eq_2 ..) (ev_neg (by decide) (Ev.bind hd ?_))
      have hg : 0 < Nat.gcd m n := Nat.gcd_pos_of_pos_left _ (by omega)
      simp only [Int.natAbs_natCast]
      have e : Int.tdiv (m : Int) ((Nat.gcd m n : Nat) : Int) = (m : Int) / ((Nat.gcd m n : Nat) : Int) := Int.tdiv_eq_ediv_of_nonneg (by omega)
      have b1 : 0 ≤ (m : Int) / ((Nat.gcd m n : Nat) : Int) := Int.ediv_nonneg (by omega) (by omega)
      have b2 : (m : Int) / ((Nat.gcd m n : Nat) : Int) ≤ m := Int.ediv_le_self _ (by omega)
      rw [e, w64 (n := (m : Int) / ((Nat.gcd m n : Nat) : Int)) (by unfold I64; omega)]
      have b3 : (m : Int) / ((Nat.gcd m n : Nat) : Int) * n ≤ 1073741824 * 1073741824 := Int.mul_le_mul (by omega) hb2 (by omega) (by omega)
      have b4 : 0 ≤ (m : Int) / ((Nat.gcd m n : Nat) : Int) * n := Int.mul_nonneg b1 (by omega)
      rw [w64 (n := (m : Int) / ((Nat.gcd m n : Nat) : Int) * n) (by unfold I64; omega)]
      exact ev_neg (by omega) (ev_ite (fun _ => ev_const rfl) (fun _ => ev_const rfl))
def loJ (p q : Sq) : Q := if okQ p.lo = true then (if okQ q.lo = true then minQ p.lo q.lo else (0, 0)) else (0, 0)
def hiJ (p q : Sq) : Q := if okQ p.hi = true then (if okQ q.hi = true then maxQ p.hi q.hi else (0, 0)) else (0, 0)
theorem sjoin_j3 {p q : Sq} (hp : I64S p) (hq : I64S q) (l1 l2 d : Int) (n e : Bool) : Ev (fun k => span_Join.j3 k p.lo.1 p.lo.2 p.hi.1 p.hi.2 p.den p.no p.em q.lo.1 q.lo.2 q.hi.1 q.hi.2 q.den q.no q.em l1 l2 0 0 d n e) (l1, l2, (hiJ p q).1, (hiJ p q).2, d, n, e) := by
  refine Ev.step (fun k => span_Join.j3.eq_2 ..) (Ev.bind (is_ev hp.hi) ?_)
  unfold hiJ
  by_cases o1 : okQ p.hi = true
  · refine ev_pos o1 (Ev.bind (is_ev hq.hi) ?_)
    by_cases o2 : okQ q.hi = true
    · simp only [if_pos o1, if_pos o2]
      exact Ev.bind (max_ev hp.hi hq.hi) (ev_const rfl)
    · simp only [if_pos o1, if_neg o2]
      exact ev_const rfl
  · simp only [if_neg o1]
    exact ev_const rfl
theorem sjoin_j2 {p q : Sq} (hp : I64S p) (hq : I64S q) (c : Bool) (d : Int) (n e : Bool) : Ev (fun k => span_Join.j2 k c p.lo.1 p.lo.2 p.hi.1 p.hi.2 p.den p.no p.em q.lo.1 q.lo.2 q.hi.1 q.hi.2 q.den q.no q.em 0 0 0 0 d n e) (if c = true then ((minQ p.lo q.lo).1, (minQ p.lo q.lo).2, (hiJ p q).1, (hiJ p q).2, d, n, e) else (0, 0, (hiJ p q).1, (hiJ p q).2, d, n, e)) :=
  Ev.step (fun k => span_Join.j2.eq_2 ..) (ev_ite (fun _ => Ev.bind (min_ev hp.lo hq.lo) (sjoin_j3 hp hq _ _ _ _ _)) (fun _ => sjoin_j3 hp hq _ _ _ _ _))
theorem sjoin_j1 {p q : Sq} (kp : OkS p) (kq : OkS q) (n : Bool) : Ev (fun k => span_Join.j1 k n p.lo.1 p.lo.2 p.hi.1 p.hi.2 p.den p.no p.em q.lo.1 q.lo.2 q.hi.1 q.hi.2 q.den q.no q.em) (tupS (if q.em = true then { p with no := n } else ⟨loJ p q, hiJ p q, comm p.den q.den, n, false⟩)) := by
  have hp := okS_i64 kp
  have hq := okS_i64 kq
  refine Ev.step (fun k => span_Join.j1.eq_2 ..) ?_
  by_cases e : q.em = true
  · simp only [if_pos e]
    exact ev_const rfl
  · simp only [if_neg e]
    refine Ev.bind (comm_ev kp.d0 kp.d1 kq.d0 kq.d1) (Ev.bind (is_ev hp.lo) ?_)
    unfold loJ
    by_cases o1 : okQ p.lo = true
    · refine ev_pos o1 (Ev.bind (is_ev hq.lo) ?_)
      refine ev_eq (sjoin_j2 hp hq _ _ _ _) ?_
      simp only [if_pos o1]
      split <;> rfl
    · refine ev_neg o1 (ev_eq (sjoin_j2 hp hq false _ _ _) ?_)
      simp only [if_neg o1]
      rfl
theorem sjoin_v {a b : Sq} (ka : OkS a) (kb : OkS b) (n : Bool) (hn : n = (a.no || b.no)) : Ev (fun k => span_Join.j0 k n a.lo.1 a.lo.2 a.hi.1 a.hi.2 a.den a.no a.em b.lo.1 b.lo.2 b.hi.1 b.hi.2 b.den b.no b.em) (tupS (joinV a b)) := by
  subst hn
  refine Ev.step (fun k => span_Join.j0.eq_2 ..) ?_
  unfold joinV
  by_cases e : a.em = true
  · rw [if_pos e]
    refine ev_pos e (ev_eq (sjoin_j1 kb ka _) ?_)
    rw [if_pos e]
  · rw [if_neg e]
    refine ev_neg e (ev_eq (sjoin_j1 ka kb _) ?_)
    rfl
theorem sjoin_ev {a b : Sq} (ha : I64S a) (hb : I64S b) : Ev (fun k => span_Join.f k a.lo.1 a.lo.2 a.hi.1 a.hi.2 a.den a.no a.em b.lo.1 b.lo.2 b.hi.1 b.hi.2 b.den b.no b.em) (tupS (joinV (cleanS a) (cleanS b))) := by
  unfold span_Join.f
  refine Ev.bind (sclean_ev ha) (Ev.bind (sclean_ev hb) ?_)
  have ka := clean_okS a
  have kb := clean_okS b
  by_cases e : (cleanS a).no = true
  · exact ev_pos e (sjoin_v ka kb true (by rw [e]; rfl))
  · exact ev_neg e (sjoin_v ka kb _ (by rw [Bool.not_eq_true] at e; rw [e]; rfl))
def cutM (l h : Q) (d : Int) (n : Bool) : Sq := if okQ l = true ∧ okQ h = true ∧ cmpQ l h > 0 then ⟨(0, 0), (0, 0), 0, n, true⟩ else ⟨l, h, d, n, false⟩
theorem meet_j5 {l h : Q} (hl : I64Q l) (hh : I64Q h) (d : Int) (n : Bool) : Ev (fun k => span_Meet.j5 k n l.1 l.2 h.1 h.2 d n false) (tupS (cutM l h d n)) := by
  refine Ev.step (fun k => span_Meet.j5.eq_2 ..) (Ev.bind (is_ev hl) ?_)
  unfold cutM
  by_cases o1 : okQ l = true
  · refine ev_pos o1 (Ev.bind (is_ev hh) ?_)
    by_cases o2 : okQ h = true
    · refine ev_pos o2 (Ev.bind (cmp_ev hl hh) ?_)
      by_cases c : cmpQ l h > 0
      · rw [if_pos (show okQ l = true ∧ okQ h = true ∧ cmpQ l h > 0 from ⟨o1, o2, c⟩)]
        exact ev_pos c (ev_const rfl)
      · rw [if_neg (show ¬ (okQ l = true ∧ okQ h = true ∧ cmpQ l h > 0) from fun x => c x.2.2)]
        exact ev_neg c (ev_const rfl)
    · rw [if_neg (show ¬ (okQ l = true ∧ okQ h = true ∧ cmpQ l h > 0) from fun x => o2 x.2.1)]
      exact ev_neg o2 (ev_const rfl)
  · rw [if_neg (show ¬ (okQ l = true ∧ okQ h = true ∧ cmpQ l h > 0) from fun x => o1 x.1)]
    exact ev_neg o1 (ev_const rfl)
theorem meet_j4 {b : Sq} {l h : Q} (hb : I64S b) (hl : I64Q l) (hh : I64Q h) (c : Bool) (d : Int) (n : Bool) : Ev (fun k => span_Meet.j4 k n c b.lo.1 b.lo.2 b.hi.1 b.hi.2 b.den b.no b.em l.1 l.2 h.1 h.2 d n false) (tupS (cutM l (if c = true then b.hi else h) d n)) := by
  refine Ev.step (fun k => span_Meet.j4.eq_2 ..) ?_
  cases c with
  | true => exact ev_pos rfl (meet_j5 hl hb.hi d n)
  | false => exact ev_neg (by decide) (meet_j5 hl hh d n)
theorem meet_j3 {b : Sq} {l h : Q} (hb : I64S b) (hl : I64Q l) (hh : I64Q h) (d : Int) (n : Bool) : Ev (fun k => span_Meet.j3 k n b.lo.1 b.lo.2 b.hi.1 b.hi.2 b.den b.no b.em l.1 l.2 h.1 h.2 d n false) (tupS (cutM l (innerHi h b.hi) d n)) := by
  refine Ev.step (fun k => span_Meet.j3.eq_2 ..) (Ev.bind (is_ev hb.hi) ?_)
  unfold innerHi
  by_cases o1 : okQ b.hi = true
  · refine ev_pos o1 (Ev.bind (is_ev hh) ?_)
    rw [if_pos o1]
    by_cases o2 : okQ h = true
    · rw [if_pos o2]
      refine ev_pos o2 (Ev.bind (cmp_ev hb.hi hh) (ev_eq (meet_j4 hb hl hh _ d n) ?_))
      by_cases c : cmpQ b.hi h < 0 <;> simp [c]
    · rw [if_neg o2]
      exact ev_neg o2 (ev_eq (meet_j4 hb hl hh true d n) rfl)
  · rw [if_neg o1]
    exact ev_neg o1 (ev_eq (meet_j4 hb hl hh false d n) rfl)
theorem meet_j2 {b : Sq} {l h : Q} (hb : I64S b) (hl : I64Q l) (hh : I64Q h) (c : Bool) (d : Int) (n : Bool) : Ev (fun k => span_Meet.j2 k n c b.lo.1 b.lo.2 b.hi.1 b.hi.2 b.den b.no b.em l.1 l.2 h.1 h.2 d n false) (tupS (cutM (if c = true then b.lo else l) (innerHi h b.hi) d n)) := by
  refine Ev.step (fun k => span_Meet.j2.eq_2 ..) ?_
  cases c with
  | true => exact ev_pos rfl (meet_j3 hb hb.lo hh d n)
  | false => exact ev_neg (by decide) (meet_j3 hb hl hh d n)
theorem meet_j1 {a b : Sq} (ka : OkS a) (kb : OkS b) (c : Bool) (n : Bool) : Ev (fun k => span_Meet.j1 k n c a.lo.1 a.lo.2 a.hi.1 a.hi.2 a.den a.no a.em b.lo.1 b.lo.2 b.hi.1 b.hi.2 b.den b.no b.em) (tupS (if c = true then ⟨(0, 0), (0, 0), 0, n, true⟩ else cutM (innerLo a.lo b.lo) (innerHi a.hi b.hi) (Nat.gcd a.den.natAbs b.den.natAbs : Nat) n)) := by
  have ha := okS_i64 ka
  have hb := okS_i64 kb
  refine Ev.step (fun k => span_Meet.j1.eq_2 ..) ?_
  cases c with
  | true => exact ev_pos rfl (ev_const rfl)
  | false =>
    have hd : Ev (fun k => span_divisor.f k a.den b.den) ((Nat.gcd a.den.natAbs b.den.natAbs : Nat) : Int) := by
      have h := sdivisor_l0 b.den.natAbs a.den.natAbs
      rw [show ((a.den.natAbs : Nat) : Int) = a.den by have := ka.d0; omega, show ((b.den.natAbs : Nat) : Int) = b.den by have := kb.d0; omega] at h
      exact h
    refine ev_neg (by decide) (Ev.bind hd (Ev.bind (is_ev hb.lo) ?_))
    rw [if_neg (by decide)]
    unfold innerLo
    by_cases o1 : okQ b.lo = true
    · rw [if_pos o1]
      refine ev_pos o1 (Ev.bind (is_ev ha.lo) ?_)
      by_cases o2 : okQ a.lo = true
      · rw [if_pos o2]
        refine ev_pos o2 (Ev.bind (cmp_ev hb.lo ha.lo) (ev_eq (meet_j2 hb ha.lo ha.hi _ _ n) ?_))
        by_cases c : cmpQ b.lo a.lo > 0 <;> simp [c]
      · rw [if_neg o2]
        exact ev_neg o2 (ev_eq (meet_j2 hb ha.lo ha.hi true _ n) rfl)
    · rw [if_neg o1]
      exact ev_neg o1 (ev_eq (meet_j2 hb ha.lo ha.hi false _ n) rfl)
theorem meet_v {a b : Sq} (ka : OkS a) (kb : OkS b) (n : Bool) (hn : n = (a.no && b.no)) : Ev (fun k => span_Meet.j0 k n a.lo.1 a.lo.2 a.hi.1 a.hi.2 a.den a.no a.em b.lo.1 b.lo.2 b.hi.1 b.hi.2 b.den b.no b.em) (tupS (meetV a b)) := by
  subst hn
  refine Ev.step (fun k => span_Meet.j0.eq_2 ..) ?_
  by_cases e : a.em = true
  · have v : meetV a b = ⟨(0, 0), (0, 0), 0, a.no && b.no, true⟩ := by unfold meetV; rw [if_pos (.inl e)]
    rw [v]
    exact ev_pos e (ev_eq (meet_j1 ka kb true _) rfl)
  · refine ev_neg e (ev_eq (meet_j1 ka kb b.em _) ?_)
    congr 1
    unfold meetV
    by_cases e2 : b.em = true
    · rw [if_pos e2, if_pos (.inr e2)]
    · rw [if_neg e2, if_neg (show ¬ (a.em = true ∨ b.em = true) by simp [e, e2])]
      rfl
theorem smeet_ev {a b : Sq} (ha : I64S a) (hb : I64S b) : Ev (fun k => span_Meet.f k a.lo.1 a.lo.2 a.hi.1 a.hi.2 a.den a.no a.em b.lo.1 b.lo.2 b.hi.1 b.hi.2 b.den b.no b.em) (tupS (meetV (cleanS a) (cleanS b))) := by
  unfold span_Meet.f
  refine Ev.bind (sclean_ev ha) (Ev.bind (sclean_ev hb) ?_)
  by_cases e : (cleanS a).no = true
  · exact ev_pos e (meet_v (clean_okS a) (clean_okS b) _ (by rw [e]; rfl))
  · exact ev_neg e (meet_v (clean_okS a) (clean_okS b) _ (by rw [Bool.not_eq_true] at e; rw [e]; rfl))
theorem ne2 {a b : Q} : (!(a.1 == b.1) || (!(a.2 == b.2))) = true ↔ ¬ same2 a b = true := by
  unfold same2
  simp only [Bool.or_eq_true, Bool.not_eq_true', Bool.and_eq_true, beq_iff_eq, beq_eq_false_iff_ne]
  omega
theorem widen_j1 {a : Sq} {l h : Q} (d : Int) (n e : Bool) : Ev (fun k => span_Widen.j1 k a.lo.1 a.lo.2 a.hi.1 a.hi.2 a.den a.no a.em l.1 l.2 h.1 h.2 d n e) (tupS ⟨l, if same2 h a.hi = true then h else (0, 0), if d = a.den then d else 0, n, e⟩) := by
  refine Ev.step (fun k => span_Widen.j1.eq_2 ..) ?_
  by_cases c : same2 h a.hi = true
  · refine ev_neg (fun x => ne2.1 x c) ?_
    simp only [if_pos c]
    by_cases c2 : d = a.den
    · simp only [if_pos c2]; exact ev_const rfl
    · simp only [if_neg c2]; exact ev_const rfl
  · refine ev_pos (ne2.2 c) ?_
    simp only [if_neg c]
    by_cases c2 : d = a.den
    · simp only [if_pos c2]; exact ev_const rfl
    · simp only [if_neg c2]; exact ev_const rfl
theorem swiden_ev {a b : Sq} (ha : I64S a) (hb : I64S b) : Ev (fun k => span_Widen.f k a.lo.1 a.lo.2 a.hi.1 a.hi.2 a.den a.no a.em b.lo.1 b.lo.2 b.hi.1 b.hi.2 b.den b.no b.em) (tupS (widenV (cleanS a) (cleanS b))) := by
  unfold span_Widen.f
  have ka := clean_okS a
  have kb := clean_okS b
  have J := sjoin_ev (okS_i64 ka) (okS_i64 kb)
  rw [clean_self ka, clean_self kb] at J
  refine Ev.bind (sclean_ev ha) (Ev.bind (sclean_ev hb) (Ev.bind J ?_))
  generalize cleanS a = x at *
  generalize cleanS b = y at *
  unfold widenV
  by_cases e : x.em = true
  · rw [if_pos (show x.em = true ∨ y.em = true from .inl e)]
    exact ev_pos e (Ev.step (fun k => span_Widen.j0.eq_2 ..) (ev_pos rfl (ev_const rfl)))
  · refine ev_neg e (Ev.step (fun k => span_Widen.j0.eq_2 ..) ?_)
    by_cases e2 : y.em = true
    · rw [if_pos (show x.em = true ∨ y.em = true from .inr e2)]
      exact ev_pos e2 (ev_const rfl)
    · rw [if_neg (show ¬ (x.em = true ∨ y.em = true) by simp [e, e2])]
      refine ev_neg e2 ?_
      by_cases c : same2 (joinV x y).lo x.lo = true
      · simp only [if_pos c]
        exact ev_neg (fun z => ne2.1 z c) (widen_j1 (a := x) _ _ _)
      · simp only [if_neg c]
        exact ev_pos (ne2.2 c) (widen_j1 (a := x) (l := (0, 0)) _ _ _)
theorem awake_ev : Ev (fun k => serinettelaw03_awake.f k) true :=
  Ev.of serinettelaw03_awake.mono (k := 60) (by decide +kernel)
abbrev toSq (x : S25) : Sq := ⟨(x.f0.f0, x.f0.f1), (x.f1.f0, x.f1.f1), x.f2, x.f3, x.f4⟩
theorem ex_ite {α : Type} {c : Prop} [Decidable c] {P : α → Prop} {f g : Nat → Option α} (h : ∃ n, Ev f n ∧ P n) (k : ∃ n, Ev g n ∧ P n) : ∃ n, Ev (fun i => if c then f i else g i) n ∧ P n := by
  obtain ⟨n, h1, h2⟩ := h
  obtain ⟨m, k1, k2⟩ := k
  by_cases e : c
  · exact ⟨n, ev_pos e h1, h2⟩
  · exact ⟨m, ev_neg e k1, k2⟩
theorem takes_j1 (a : ByteArray) (b : Bool) : ∃ n, Ev (fun k => serinetteref03_Takes.j1 k a b) n ∧ (0 ≤ n ∧ n ≤ 3) := by
  have h : ∃ n, Ev (fun k : Nat => if b = true then some 2 else (if a.toList = ([112, 105, 99, 107] : List UInt8) then some 3 else some 0)) n ∧ ((0 : Int) ≤ n ∧ n ≤ 3) :=
    ex_ite ⟨2, ev_const rfl, by decide⟩ (ex_ite ⟨3, ev_const rfl, by decide⟩ ⟨0, ev_const rfl, by decide⟩)
  obtain ⟨n, h1, h2⟩ := h
  exact ⟨n, Ev.step (fun k => serinetteref03_Takes.j1.eq_2 ..) h1, h2⟩
theorem ex_step {α : Type} {P : α → Prop} {g f : Nat → Option α} (h : ∀ k, g (k + 1) = f k) (k : ∃ n, Ev f n ∧ P n) : ∃ n, Ev g n ∧ P n := by
  obtain ⟨n, k1, k2⟩ := k
  exact ⟨n, Ev.step h k1, k2⟩
theorem takes_j0 (a : ByteArray) (b : Bool) : ∃ n, Ev (fun k => serinetteref03_Takes.j0 k a b) n ∧ (0 ≤ n ∧ n ≤ 3) := by
  refine ex_step (fun k => serinetteref03_Takes.j0.eq_2 ..) (ex_ite ⟨1, ev_const rfl, by decide⟩ ?_)
  repeat (first | exact takes_j1 _ _ | refine ex_ite (takes_j1 _ _) ?_)
theorem takes_ev (a : ByteArray) : ∃ n, Ev (fun k => serinetteref03_Takes.f k a) n ∧ (0 ≤ n ∧ n ≤ 3) := by
  unfold serinetteref03_Takes.f
  repeat (first | exact takes_j0 _ _ | refine ex_ite (takes_j0 _ _) ?_)
theorem rd25 {l : List S25} {i : Int} {t : Nat} (hi : i = t) (ht : t < l.length) : rd_T25 l i = l[t] := by
  subst hi
  simp [rd_T25, List.getD_eq_getElem?_getD, List.getElem?_eq_getElem ht]
theorem rd25_last {pre : List S25} {y : S25} {i : Int} (hi : i = pre.length) : rd_T25 (pre ++ [y]) i = y := by
  subst hi
  simp [rd_T25, List.getD_eq_getElem?_getD]
theorem sameS_iff {a b : Sq} : ((!((tupS a).1 == b.lo.1) || (!((tupS a).2.1 == b.lo.2))) || ((!((tupS a).2.2.1 == b.hi.1) || (!((tupS a).2.2.2.1 == b.hi.2))) || (!((tupS a).2.2.2.2.1 == b.den) || (!((tupS a).2.2.2.2.2.1 == b.no) || (!((tupS a).2.2.2.2.2.2 == b.em)))))) = true ↔ ¬ sameS a b := by
  obtain ⟨⟨a1, a2⟩, ⟨a3, a4⟩, a5, a6, a7⟩ := a
  obtain ⟨⟨b1, b2⟩, ⟨b3, b4⟩, b5, b6, b7⟩ := b
  unfold sameS
  simp only [Bool.or_eq_true, Bool.not_eq_true', beq_eq_false_iff_ne, Prod.mk.injEq]
  by_cases c1 : a1 = b1 <;> by_cases c2 : a2 = b2 <;> by_cases c3 : a3 = b3 <;> by_cases c4 : a4 = b4 <;> by_cases c5 : a5 = b5 <;> by_cases c6 : a6 = b6 <;> by_cases c7 : a7 = b7 <;> simp [c1, c2, c3, c4, c5, c6, c7]
theorem law_l1 (l : List S25) (hl : l.length ≤ 4611686018427387904) (hg : ∀ x ∈ l, I64S (toSq x)) : ∀ (d t n : Nat) (s : Sq), t + d = l.length → OkS s → (s.em = true → n = 0) → (s.em = false → n + left s ≤ 4) → n ≤ 4 →
    Ev (fun k => serinettelaw03_SpanNests.l1 k (n : Int) l (l.length : Int) (t : Int) s.lo.1 s.lo.2 s.hi.1 s.hi.2 s.den s.no s.em) true := by
  intro d
  induction d with
  | zero =>
    intro t n s ht hs h1 h2 h3
    refine Ev.step (fun k => serinettelaw03_SpanNests.l1.eq_2 ..) (ev_neg (by omega) (ev_pos (by omega) (Ev.bind awake_ev (ev_const rfl))))
  | succ d ih =>
    intro t n s ht hs h1 h2 h3
    have hlt : t < l.length := by omega
    refine Ev.step (fun k => serinettelaw03_SpanNests.l1.eq_2 ..) (ev_pos (by omega) (ev_pos (by omega) (ev_pos (by omega) ?_)))
    rw [rd25 rfl hlt]
    have hx := hg l[t] (List.getElem_mem hlt)
    have W := swiden_ev (okS_i64 hs) hx
    rw [clean_self hs] at W
    have hw := widen_ok hs (clean_okS (toSq l[t]))
    have e1 : wrap64 ((t : Int) + 1) = ((t + 1 : Nat) : Int) := by rw [w64 (by unfold I64; omega)]; rfl
    by_cases e : s.em = true
    · refine ev_pos e (Ev.bind W ?_)
      rw [e1]
      have n0 := h1 e
      exact ih (t + 1) n _ (by omega) hw (fun _ => n0) (fun _ => by have := left_le (widenV s (cleanS (toSq l[t]))); omega) h3
    · have e' : s.em = false := by simpa using e
      refine ev_neg e (Ev.bind W ?_)
      rw [e1]
      obtain ⟨w1, w2, w3⟩ := widen_left hs (clean_okS (toSq l[t])) e'
      have b := h2 e'
      by_cases c : sameS (widenV s (cleanS (toSq l[t]))) s
      · refine ev_neg (fun x => sameS_iff.1 x c) ?_
        exact ih (t + 1) n _ (by omega) hw (fun x => by rw [w1] at x; cases x) (fun _ => by omega) h3
      · refine ev_pos (sameS_iff.2 c) ?_
        have := w3 c
        have e2 : wrap64 ((n : Int) + 1) = ((n + 1 : Nat) : Int) := by rw [w64 (by unfold I64; omega)]; rfl
        rw [e2]
        exact ih (t + 1) (n + 1) _ (by omega) hw (fun x => by rw [w1] at x; cases x) (fun _ => by omega) (by omega)
theorem law_j3 (l : List S25) (hl : l.length ≤ 4611686018427387904) (hg : ∀ x ∈ l, I64S (toSq x)) : Ev (fun k => serinettelaw03_SpanNests.j3 k l) true := by
  refine Ev.step (fun k => serinettelaw03_SpanNests.j3.eq_2 ..) (Ev.bind (g := fun _ => serinetteref03_Empty.f false) (a := (0, 0, 0, 0, 0, false, true)) (ev_const rfl) ?_)
  exact law_l1 l hl hg l.length 0 0 ⟨(0, 0), (0, 0), 0, false, true⟩ (by omega) (empty_ok false) (fun _ => rfl) (fun h => by cases h) (by omega)
theorem law_l0 (l m : List S25) (hl : l.length ≤ 4611686018427387904) (hg : ∀ x ∈ l, I64S (toSq x)) (hm : ∀ x ∈ m, I64S (toSq x)) {q : Q} (hq : I64Q q) (n : Nat) (hn : n ≤ 3) (h1 : n ≤ l.length) (h2 : n ≤ m.length) : ∀ (d t : Nat) (wide : List S25), t + d = n → wide.length = t →
    Ev (fun k => serinettelaw03_SpanNests.l0 k l m (n : Int) wide (t : Int) q.1 q.2) true := by
  intro d
  induction d with
  | zero =>
    intro t wide ht hw
    exact Ev.step (fun k => serinettelaw03_SpanNests.l0.eq_2 ..) (ev_neg (by omega) (law_j3 l hl hg))
  | succ d ih =>
    intro t wide ht hw
    have ha := hg l[t] (List.getElem_mem (by omega))
    have hb := hm m[t] (List.getElem_mem (by omega))
    have ka := clean_okS (toSq l[t])
    have kb := clean_okS (toSq m[t])
    have J := sjoin_ev ha hb
    have oJ := join_ok ka kb
    have M := smeet_ev ha hb
    have oM := meet_ok ka kb
    have HA := thas_ev ha hq
    have HB := thas_ev hb hq
    have HJ := shas_ev (okS_i64 oJ) hq
    have HM := shas_ev (okS_i64 oM) hq
    rw [clean_self oJ] at HJ
    rw [clean_self oM] at HM
    have on : ∀ wide' : List S25, wide'.length = t + 1 → Ev (fun k => serinettelaw03_SpanNests.j2 k l m (n : Int) wide' (t : Int) false q.1 q.2) true := fun wide' hw' => by
      refine Ev.step (fun k => serinettelaw03_SpanNests.j2.eq_2 ..) (ev_neg (by decide) ?_)
      rw [show wrap64 ((t : Int) + 1) = ((t + 1 : Nat) : Int) by rw [w64 (by unfold I64; omega)]; rfl]
      exact ih (t + 1) wide' (by omega) hw'
    refine Ev.step (fun k => serinettelaw03_SpanNests.l0.eq_2 ..) (ev_pos (by omega) (ev_pos (by omega) (ev_pos (by omega) (ev_pos (by omega) ?_))))
    rw [rd25 rfl (show t < l.length by omega), rd25 rfl (show t < m.length by omega)]
    refine Ev.bind J (ev_pos (by omega) ?_)
    refine ev_bind (a := wide ++ [(⟨(⟨(joinV (cleanS (toSq l[t])) (cleanS (toSq m[t]))).lo.1, (joinV (cleanS (toSq l[t])) (cleanS (toSq m[t]))).lo.2⟩ : S23), (⟨(joinV (cleanS (toSq l[t])) (cleanS (toSq m[t]))).hi.1, (joinV (cleanS (toSq l[t])) (cleanS (toSq m[t]))).hi.2⟩ : S23), (joinV (cleanS (toSq l[t])) (cleanS (toSq m[t]))).den, (joinV (cleanS (toSq l[t])) (cleanS (toSq m[t]))).no, (joinV (cleanS (toSq l[t])) (cleanS (toSq m[t]))).em⟩ : S25)]) rfl ?_
    refine Ev.bind HA ?_
    have next := on _ (show (wide ++ [(⟨(⟨(joinV (cleanS (toSq l[t])) (cleanS (toSq m[t]))).lo.1, (joinV (cleanS (toSq l[t])) (cleanS (toSq m[t]))).lo.2⟩ : S23), (⟨(joinV (cleanS (toSq l[t])) (cleanS (toSq m[t]))).hi.1, (joinV (cleanS (toSq l[t])) (cleanS (toSq m[t]))).hi.2⟩ : S23), (joinV (cleanS (toSq l[t])) (cleanS (toSq m[t]))).den, (joinV (cleanS (toSq l[t])) (cleanS (toSq m[t]))).no, (joinV (cleanS (toSq l[t])) (cleanS (toSq m[t]))).em⟩ : S25)]).length = t + 1 by simp [hw])
    by_cases cA : hasB (cleanS (toSq l[t])) q = true
    · refine ev_pos cA (ev_pos (by simp; omega) ?_)
      rw [rd25_last (show (t : Int) = wide.length by omega)]
      refine Ev.bind HJ ?_
      have cJ : hasB (joinV (cleanS (toSq l[t])) (cleanS (toSq m[t]))) q = true := (hasB_iff _ _).2 (in_join ka kb ((hasB_iff _ _).1 cA))
      refine ev_pos cJ (Ev.bind HA (ev_pos cA (Ev.bind HB ?_)))
      by_cases cB : hasB (cleanS (toSq m[t])) q = true
      · refine ev_pos cB (Ev.bind M (Ev.bind HM ?_))
        have cM : hasB (meetV (cleanS (toSq l[t])) (cleanS (toSq m[t]))) q = true := (hasB_iff _ _).2 (in_meet ((hasB_iff _ _).1 cA) ((hasB_iff _ _).1 cB))
        rw [cM]
        exact next
      · exact ev_neg cB next
    · refine ev_neg cA (Ev.bind HA (ev_neg cA next))
theorem pure (op : ByteArray) (l m : List S25) (hl : l.length ≤ 4611686018427387904) (hg : ∀ x ∈ l, I64S (toSq x)) (hm : ∀ x ∈ m, I64S (toSq x)) {q : Q} (hq : I64Q q) : Ev (fun k => serinettelaw03_SpanNests.f k op l m q.1 q.2) true := by
  obtain ⟨n, hn, h0, h3⟩ := takes_ev op
  have stop : Ev (fun k => serinettelaw03_SpanNests.j0 k l m n false q.1 q.2) true :=
    Ev.step (fun k => serinettelaw03_SpanNests.j0.eq_2 ..) (ev_neg (by decide) (law_j3 l hl hg))
  unfold serinettelaw03_SpanNests.f
  refine Ev.bind hn ?_
  by_cases c1 : n > 0
  · refine ev_pos c1 ?_
    by_cases c2 : (l.length : Int) ≥ n
    · refine ev_pos c2 ?_
      by_cases c3 : (m.length : Int) ≥ n
      · rw [decide_eq_true c3]
        obtain ⟨x, rfl⟩ : ∃ x : Nat, n = x := ⟨n.toNat, by omega⟩
        exact Ev.step (fun k => serinettelaw03_SpanNests.j0.eq_2 ..) (ev_pos rfl (law_l0 l m hl hg hm hq x (by omega) (by omega) (by omega) x 0 [] (by omega) rfl))
      · rw [decide_eq_false c3]
        exact stop
    · exact ev_neg c2 stop
  · exact ev_neg c1 stop
end Go.Proofs.YtlibjgmnookakaaDoor.SSpanNests
namespace Go.Proofs.YtlibjgmnookakaaDoor.Fit
open Go.ChangeShapes Go.WideShapes Go.Deep Go.Proofs.YtlibjgmnookakaaDoor.Wd.PrintWords
structure Fit (P : Program) (t : TypeId) {α : Type} (k : Kd α) (good : α → Prop) : Prop where
  sz : P.cellsOf t = k.sz
  take : ∀ {H : Type} {enc : TypeId × Value → H} {w : World} {base : Nat} {spare : Nat → Bool} {held : Bool} {fuel : Nat} {cs : List Value} {x : DataW H × List MemPlace},
    DataW.trod enc P w base spare held fuel t cs = some x → (∀ n ∈ x.1.weights P t, n ≤ 140737488351232) → ∃ a, k.K w a cs ∧ good a
theorem Fit.int {P : Program} {t : TypeId} {k : IntKind} (ht : P.underlying t = some (.int k)) (hs : P.cellsOf t = 1) : Fit P t (Kd.int k) (fun n => (Lit.int k n).wf = true) :=
  ⟨hs, fun h _ => by
    obtain ⟨n, rfl, _, hw⟩ := DataW.trod_int ht h
    exact ⟨n, rfl, hw⟩⟩
theorem Fit.bool {P : Program} {t : TypeId} (ht : P.underlying t = some .bool) (hs : P.cellsOf t = 1) : Fit P t Kd.bool (fun _ => True) :=
  ⟨hs, fun h _ => by
    obtain ⟨n, rfl, _⟩ := DataW.trod_bool ht h
    exact ⟨n, rfl, trivial⟩⟩
theorem Fit.string {P : Program} {t : TypeId} (ht : P.underlying t = some .string) (hs : P.cellsOf t = 1) : Fit P t Kd.string (fun s => s.size ≤ 140737488351232) :=
  ⟨hs, fun h hw => by
    obtain ⟨s, rfl, rfl, _⟩ := DataW.trod_string ht h
    refine ⟨s, rfl, ?_⟩
    have := hw s.data.toList.length (by simp [DataW.weights])
    rw [Array.length_toList] at this
    exact this⟩
theorem Fit.iso {P : Program} {t : TypeId} {α β : Type} {k : Kd α} {good : α → Prop} (h : Fit P t k good) (f : β → α) (g : α → β) (hfg : ∀ a, f (g a) = a) : Fit P t (Kd.iso k f) (fun b => good (f b)) :=
  ⟨h.sz, fun ht hw => by
    obtain ⟨a, hk, hg⟩ := h.take ht hw
    refine ⟨g a, ?_, ?_⟩
    · show k.K _ (f (g a)) _
      rw [hfg]; exact hk
    · show good (f (g a))
      rw [hfg]; exact hg⟩
theorem weightsAll_mem {H : Type} {P : Program} {e : TypeId} : ∀ {ds : List (DataW H)} {d : DataW H}, d ∈ ds → ∀ n ∈ d.weights P e, n ∈ DataW.weightsAll P e ds
  | [], _, h, _, _ => by cases h
  | d0 :: ds, d, h, n, hn => by
    simp only [DataW.weightsAll, List.mem_append]
    rcases List.mem_cons.1 h with rfl | h
    · exact .inl hn
    · exact .inr (weightsAll_mem h n hn)
theorem Fit.slice {P : Program} {t e : TypeId} {α : Type} {k : Kd α} {good : α → Prop} {B : Nat} (ht : P.underlying t = some (.slice e)) (hs : P.cellsOf t = 1) (he : Fit P e k good) (hB : P.bytesOf e = B) :
    Fit P t (Kd.slice e k) (fun xs => xs.length * B ≤ 140737488351232 ∧ ∀ x ∈ xs, good x) :=
  ⟨hs, fun {H enc w base spare held fuel cs x} h hw => by
    rcases open_slice ht h with ⟨rfl, rfl⟩ | ⟨a, len, cap, m, n, D, Pl, rfl, hb, hl, hm, hmm, rfl, hi⟩
    · exact ⟨[], ⟨none, 0, rfl, Nat.le_refl _, Kd.C_nil _ _⟩, by simp, fun x hx => by cases hx⟩
    · have hlm : len ≤ m := by rw [hmm]; split <;> omega
      have hwt : ∀ n ∈ DataW.weights P t (.slice ((List.range len).map D) ((List.range (m - len)).map fun j => D (len + j))), n ≤ 140737488351232 := hw
      have hel : ∀ i, i < len → ∃ (p : α), ∃ c, w.cells? base (a.add (i * P.cellsOf e)) (P.cellsOf e) = some c ∧ k.K w p c ∧ good p := by
        intro i hlt
        obtain ⟨c, hc, hT⟩ := hi i (by omega)
        obtain ⟨p, hp, hg⟩ := he.take hT (by
          intro q hq
          refine hwt q ?_
          simp only [DataW.weights, ht, List.mem_cons, List.mem_append]
          exact .inr (.inl (weightsAll_mem (List.mem_map.2 ⟨i, List.mem_range.2 hlt, rfl⟩) q hq)))
        exact ⟨p, c, hc, hp, hg⟩
      have hch : ∃ xs : List α, xs.length = len ∧ ∀ (i : Nat) (p : α), xs[i]? = some p → ∃ c, w.cells? base (a.add (i * P.cellsOf e)) (P.cellsOf e) = some c ∧ k.K w p c ∧ good p := by
        clear hwt hw h hi hl hm hmm hlm
        induction len with
        | zero => exact ⟨[], rfl, fun i p hp => by simp at hp⟩
        | succ len ih =>
          obtain ⟨xs, hx, hxs⟩ := ih (fun i hi => hel i (Nat.lt_succ_of_lt hi))
          obtain ⟨p, hp⟩ := hel len (Nat.lt_succ_self _)
          refine ⟨xs ++ [p], by simp [hx], fun i q hq => ?_⟩
          by_cases hil : i < xs.length
          · rw [List.getElem?_append_left hil] at hq
            exact hxs i q hq
          · have hlt : i < (xs ++ [p]).length := (List.getElem?_eq_some_iff.1 hq).1
            simp at hlt
            obtain rfl : i = xs.length := by omega
            simp at hq
            subst hq
            rw [hx]
            exact hp
      obtain ⟨xs, hx, hxs⟩ := hch
      refine ⟨xs, ⟨some a, cap, by rw [hx], by rw [hx]; exact hl, ?_⟩, ?_, ?_⟩
      · refine ⟨rfl, by simp only [maxLen] at hm; omega, fun _ => ⟨a, rfl, fun j p hj => ?_⟩⟩
        obtain ⟨c, hc, hk, _⟩ := hxs j p hj
        have hck := k.K_len hk
        obtain ⟨_, hcl, hat⟩ := World.cells?_some hc
        refine ⟨c, hck, hk, fun i u hu => ?_⟩
        have hi' : i < c.length := (List.getElem?_eq_some_iff.1 hu).1
        have h1 := hat (i := i) (by rw [← he.sz] at hck; omega)
        rw [Deep.add_add] at h1
        rw [← he.sz, h1, hu]
      · have h1 : (len + (m - len)) * P.bytesOf e ≤ 140737488351232 := hwt _ (by simp [DataW.weights, ht])
        rw [hB] at h1
        rw [hx]
        exact Nat.le_trans (Nat.mul_le_mul_right _ (by omega)) h1
      · intro x hx'
        obtain ⟨i, hi', rfl⟩ := List.getElem_of_mem hx'
        obtain ⟨c, _, _, hg⟩ := hxs i _ (List.getElem?_eq_getElem hi')
        exact hg⟩
structure FitF (P : Program) (fs : List Field) (off : Nat) {α : Type} (k : Kd α) (good : α → Prop) : Prop where
  take : ∀ {H : Type} {enc : TypeId × Value → H} {w : World} {base : Nat} {spare : Nat → Bool} {held : Bool} {fuel : Nat} {cs : List Value} {xs : List (DataW H × List MemPlace)},
    xs.length = fs.length → (∀ (i : Nat) (f : Field), fs[i]? = some f → DataW.trod enc P w base spare held fuel f.type ((cs.drop f.offset).take (P.cellsOf f.type)) = xs[i]?) →
    cs.length = off + k.sz → (∀ n ∈ DataW.weightsEach P (fs.map (·.type)) (xs.map (·.1)), n ≤ 140737488351232) → ∃ a, k.K w a (cs.drop off) ∧ good a
theorem FitF.last {P : Program} {f : Field} {off : Nat} {α : Type} {k : Kd α} {good : α → Prop} (hf : Fit P f.type k good) (ho : f.offset = off) : FitF P [f] off k good :=
  ⟨fun {H enc w base spare held fuel cs xs} hl h hc hw => by
    match xs, hl with
    | [y], _ =>
      have h0 := h 0 f rfl
      rw [ho, hf.sz, List.take_of_length_le (by rw [List.length_drop]; omega)] at h0
      exact hf.take (x := y) h0 (fun n hn => hw n (by simp [DataW.weightsEach]; exact hn))⟩
theorem FitF.cons {P : Program} {f : Field} {fs : List Field} {off : Nat} {α β : Type} {k : Kd α} {k' : Kd β} {good : α → Prop} {good' : β → Prop} (hf : Fit P f.type k good) (ho : f.offset = off) (hfs : FitF P fs (off + k.sz) k' good') :
    FitF P (f :: fs) off (Kd.pair k k') (fun x => good x.1 ∧ good' x.2) :=
  ⟨fun {H enc w base spare held fuel cs xs} hl h hc hw => by
    match xs, hl with
    | y :: ys, hl =>
      have hc' : cs.length = off + (k.sz + k'.sz) := hc
      have h0 := h 0 f rfl
      rw [ho, hf.sz] at h0
      obtain ⟨a, ha, hga⟩ := hf.take (x := y) h0 (fun n hn => hw n (by simp only [List.map_cons, DataW.weightsEach, List.mem_append]; exact .inl hn))
      obtain ⟨b, hb, hgb⟩ := hfs.take (xs := ys) (by simpa using hl) (fun i g hg => by have := h (i + 1) g (by simpa using hg); simpa using this) (by omega)
        (fun n hn => hw n (by simp only [List.map_cons, DataW.weightsEach, List.mem_append]; exact .inr hn))
      refine ⟨(a, b), ⟨(cs.drop off).take k.sz, cs.drop (off + k.sz), ?_, ha, hb⟩, hga, hgb⟩
      rw [← List.drop_drop, List.take_append_drop]⟩
theorem Fit.struct {P : Program} {t : TypeId} {fs : Array Field} {α : Type} {k : Kd α} {good : α → Prop} (ht : P.underlying t = some (.struct fs)) (hs : P.cellsOf t = k.sz) (hf : FitF P fs.toList 0 k good) : Fit P t k good :=
  ⟨hs, fun {H enc w base spare held fuel cs x} h hw => by
    obtain ⟨xs, n, rfl, rfl, hc, hl, hg⟩ := DataW.trod_struct ht h
    have := hf.take (xs := xs) (by simpa using hl) (fun i f hi => hg i f (by simpa using hi)) (by rw [hc, hs]; omega) (fun q hq => hw q (by simpa [DataW.weights, ht] using hq))
    simpa using this⟩
theorem Fit.param {P : Program} {t : TypeId} {α : Type} {k : Kd α} {good : α → Prop} (hf : Fit P t k good) {H : Type} {enc : TypeId × Value → H} {w : World} {base : Nat} {spare : Nat → Bool} {held : Bool} {v : Value} {d : DataW H} {ps : List MemPlace}
    {ts : List TypeId} {ds : List (DataW H)} {j : Nat} (hsz : (DataW.weightsEach P ts ds).all (· ≤ reachBytes) = true) (hj : ts[j]? = some t) (hd : ds[j]? = some d) (h : DataW.Trod enc P w base spare held t v d ps) :
    ∃ a, k.K w a v.cells.toList ∧ good a := by
  obtain ⟨fuel, h⟩ := h
  refine hf.take h fun n hn => ?_
  have := List.all_eq_true.1 hsz _ (DataW.weights_mem_each hj hd n hn)
  exact of_decide_eq_true this
end Go.Proofs.YtlibjgmnookakaaDoor.Fit
