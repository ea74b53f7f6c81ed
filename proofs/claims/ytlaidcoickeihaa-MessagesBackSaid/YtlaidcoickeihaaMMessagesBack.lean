/- Of the statement MessagesBack: what it computes is true of any messages (plain part). -/
import Derived.Test.YtlaidcoickeihaaPMessagesBackx5
namespace Go.Proofs.Ytlaidcoickeihaa.Plain
open Go.RowKit Go.Proofs.Ytlaidcoickeihaa.PMessagesBack Go.Proofs.YtlaidcoickeihaaW.PrintWords Go.Proofs.YtlaidcoickeihaaW.PrintLast
set_option linter.unusedVariables false
set_option linter.unusedSimpArgs false

def st0 : Int × List Int × List Int := (0, [], List.replicate 512 0)
theorem read_is (k : Nat) (b : List Int) (h : b.length ≤ 100000) (hx : ∀ x ∈ b, 0 ≤ x ∧ x ≤ 255) : message_Read.f k b = some (rdRun st0 b).2 := by
  unfold message_Read.f
  rw [if_pos ⟨h, hx⟩]
  rfl
theorem rread_is (k : Nat) (b : List Int) (h : b.length ≤ 100000) (hx : ∀ x ∈ b, 0 ≤ x ∧ x ≤ 255) : serinetteref21_Read.f k b = some (rdRun st0 b).2 := by
  unfold serinetteref21_Read.f
  rw [if_pos ⟨h, hx⟩]
  rfl
theorem tl_on : (⟨#[111, 110]⟩ : ByteArray).toList = [111, 110] := by first | decide +kernel | rfl | kernel_rfl
theorem tl_off : (⟨#[111, 102, 102]⟩ : ByteArray).toList = [111, 102, 102] := by first | decide +kernel | rfl | kernel_rfl
theorem tl_control : (⟨#[99, 111, 110, 116, 114, 111, 108]⟩ : ByteArray).toList = [99, 111, 110, 116, 114, 111, 108] := by first | decide +kernel | rfl | kernel_rfl
theorem tl_bend : (⟨#[98, 101, 110, 100]⟩ : ByteArray).toList = [98, 101, 110, 100] := by first | decide +kernel | rfl | kernel_rfl
theorem awake_is (k : Nat) : serinettelaw21_awake.f k = some true := by
  unfold serinettelaw21_awake.f
  rw [read_is k _ (by simp) (by intro x hx; simp at hx; omega)]
  have : (rdRun st0 [144, 60, 100, 62, 0]).2 = [⟨⟨#[111, 110]⟩, 0, 60, 100⟩, ⟨⟨#[111, 102, 102]⟩, 0, 62, 64⟩] := by
    kernel_rfl
  rw [this]
  simp [rd_T37, tl_on, tl_off]
/-- Two messages alike, field by field. -/
def Alike (a b : S37) : Prop := a.f0.toList = b.f0.toList ∧ a.f1 = b.f1 ∧ a.f2 = b.f2 ∧ a.f3 = b.f3
inductive Alikes : List S37 → List S37 → Prop
  | nil : Alikes [] []
  | cons {a b l m} : Alike a b → Alikes l m → Alikes (a :: l) (b :: m)
theorem Alikes.refl (l : List S37) : Alikes l l := by
  induction l with
  | nil => exact .nil
  | cons a l ih => exact .cons ⟨rfl, rfl, rfl, rfl⟩ ih
theorem Alikes.append {a b c d : List S37} (h : Alikes a b) (k : Alikes c d) : Alikes (a ++ c) (b ++ d) := by
  induction h with
  | nil => exact k
  | cons h _ ih => exact .cons h ih
theorem Alikes.len {a b : List S37} (h : Alikes a b) : a.length = b.length := by
  induction h with
  | nil => rfl
  | cons h _ ih => simp [ih]
theorem Alikes.at {a b : List S37} (h : Alikes a b) (i : Nat) (hi : i < a.length) : Alike (rd_T37 a i) (rd_T37 b i) := by
  induction h generalizing i with
  | nil => simp at hi
  | cons h _ ih =>
    cases i with
    | zero => simpa [rd_T37] using h
    | succ i => have := ih i (by simpa using hi); simpa [rd_T37] using this
theorem same_of {a b : List S37} (h : Alikes a b) (hl : a.length ≤ 1000000) : Ev (fun k => serinettelaw21_same.f k a b) true := by
  have hlen := h.len
  have H : ∀ d (i : Nat), a.length - i = d → i ≤ a.length → Ev (fun k => serinettelaw21_same.l0 k a b (a.length : Int) (i : Int)) true := by
    intro d
    induction d with
    | zero =>
      intro i hd hi
      refine Ev.step (fun k => serinettelaw21_same.l0.eq_2 ..) ?_
      simp only [if_neg (show ¬ ((i : Int) < (a.length : Int)) by omega)]
      exact Ev.now true
    | succ d ih =>
      intro i hd hi
      obtain ⟨q0, q1, q2, q3⟩ := h.at i (by omega)
      refine Ev.step (fun k => serinettelaw21_same.l0.eq_2 ..) ?_
      simp only [if_pos (show (i : Int) < (a.length : Int) by omega), if_pos (show (i : Int) < (b.length : Int) by omega), if_pos (show 0 ≤ (i : Int) by omega), q0, q1, q2, q3, beq_self_eq_true, Bool.not_true, Bool.or_false, Bool.false_eq_true, if_false]
      have := ih (i + 1) (by omega) (by omega)
      rwa [show ((i + 1 : Nat) : Int) = wrap64 ((i : Int) + 1) by unfold wrap64; omega] at this
  unfold serinettelaw21_same.f
  simp only [if_pos (show (a.length : Int) = (b.length : Int) by omega)]
  exact H _ 0 rfl (Nat.zero_le _)
/-- What makes a message one. -/
def validB (m : S37) : Bool :=
  decide (0 ≤ m.f1) && decide (m.f1 ≤ 15) && decide (0 ≤ m.f2) && decide (0 ≤ m.f3) &&
  (if m.f0.toList = ([111, 110] : List UInt8) then decide (m.f2 ≤ 127) && decide (1 ≤ m.f3) && decide (m.f3 ≤ 127)
   else if m.f0.toList = ([111, 102, 102] : List UInt8) then decide (m.f2 ≤ 127) && decide (m.f3 ≤ 127)
   else if m.f0.toList = ([99, 111, 110, 116, 114, 111, 108] : List UInt8) then decide (m.f2 ≤ 127) && decide (m.f3 ≤ 127)
   else if m.f0.toList = ([98, 101, 110, 100] : List UInt8) then decide (m.f2 = 0) && decide (m.f3 ≤ 16383)
   else if m.f0.toList = ([119, 105, 100, 101] : List UInt8) then decide (m.f2 ≤ 31) && decide (m.f3 ≤ 16383)
   else false)
theorem b_eq {a b : Bool} (h : a = true ↔ b = true) : a = b := by cases a <;> cases b <;> simp_all
theorem valid_is (k : Nat) (m : S37) : message_Valid.f (k + 2) m.f0 m.f1 m.f2 m.f3 = some (validB m) := by
  obtain ⟨f0, f1, f2, f3⟩ := m
  unfold message_Valid.f validB
  simp only [message_Valid.j0, message_Valid.j1]
  by_cases h1 : f1 < 0
  · simp [h1, show ¬ (0 ≤ f1) by omega]
  by_cases h2 : f1 > 15
  · simp [h1, h2, show ¬ (f1 ≤ 15) by omega]
  by_cases h3 : f2 < 0
  · simp [h1, h2, h3, show ¬ (0 ≤ f2) by omega]
  by_cases h4 : f3 < 0
  · simp [h1, h2, h3, h4, show ¬ (0 ≤ f3) by omega]
  simp only [h1, h2, h3, h4, if_false, decide_false, Bool.false_eq_true, show 0 ≤ f1 by omega, show f1 ≤ 15 by omega, show 0 ≤ f2 by omega, show 0 ≤ f3 by omega, decide_true, Bool.true_and]
  by_cases e0 : f0.toList = ([111, 110] : List UInt8)
  · simp only [e0, if_true, if_false]
    by_cases c : f2 ≤ 127 <;> by_cases d : 1 ≤ f3 <;> simp [c, d]
  by_cases e1 : f0.toList = ([111, 102, 102] : List UInt8)
  · simp only [e1, if_true, beq_self_eq_true]
    by_cases c : f2 ≤ 127 <;> simp [c]
  by_cases e2 : f0.toList = ([99, 111, 110, 116, 114, 111, 108] : List UInt8)
  · simp only [e2, if_true, beq_self_eq_true]
    by_cases c : f2 ≤ 127 <;> simp [c]
  have e2b : (f0.toList == ([99, 111, 110, 116, 114, 111, 108] : List UInt8)) = false := beq_eq_false_iff_ne.mpr e2
  by_cases e3 : f0.toList = ([98, 101, 110, 100] : List UInt8)
  · simp only [e3]
    by_cases c : f2 = 0 <;> simp [c]
  by_cases e4 : f0.toList = ([119, 105, 100, 101] : List UInt8)
  · simp only [e4]
    by_cases c : f2 ≤ 31 <;> simp [c]
  · simp only [e0, e1, e2, e3, e4, e2b, if_false, Bool.false_eq_true]
theorem within_is (a b : Int) : serinetteref21_within.f a b = some (decide (0 ≤ a) && decide (a ≤ b)) := by
  unfold serinetteref21_within.f
  by_cases h : a ≥ 0
  · rw [if_pos h]; simp [show 0 ≤ a from h]
  · rw [if_neg h]; simp [show ¬ 0 ≤ a from h]
theorem rvalid_is (k : Nat) (m : S37) : serinetteref21_Valid.f (k + 1) m.f0 m.f1 m.f2 m.f3 = some (validB m) := by
  obtain ⟨f0, f1, f2, f3⟩ := m
  unfold serinetteref21_Valid.f validB
  simp only [serinetteref21_Valid.j0, within_is, Option.bind_some]
  by_cases h1 : 0 ≤ f1
  · by_cases h2 : f1 ≤ 15
    · simp only [h1, h2, decide_true, Bool.and_self, if_true, Bool.true_and]
      by_cases e0 : f0.toList = ([111, 110] : List UInt8)
      · simp only [e0, if_true, if_false]
        by_cases c : 0 ≤ f2 <;> by_cases d : f2 ≤ 127 <;> by_cases g : f3 ≥ 1 <;> by_cases q : 0 ≤ f3 <;> simp [c, d, g, q] <;> omega
      by_cases e1 : f0.toList = ([111, 102, 102] : List UInt8)
      · simp only [e1, if_true, beq_self_eq_true]
        by_cases c : 0 ≤ f2 <;> by_cases d : f2 ≤ 127 <;> by_cases q : 0 ≤ f3 <;> simp [c, d, q]
      by_cases e2 : f0.toList = ([99, 111, 110, 116, 114, 111, 108] : List UInt8)
      · simp only [e2, if_true, beq_self_eq_true]
        by_cases c : 0 ≤ f2 <;> by_cases d : f2 ≤ 127 <;> by_cases q : 0 ≤ f3 <;> simp [c, d, q]
      have e2b : (f0.toList == ([99, 111, 110, 116, 114, 111, 108] : List UInt8)) = false := beq_eq_false_iff_ne.mpr e2
      by_cases e3 : f0.toList = ([98, 101, 110, 100] : List UInt8)
      · simp only [e3]
        by_cases d : f2 = 0
        · by_cases q : 0 ≤ f3 <;> simp [d, q]
        · by_cases c : 0 ≤ f2 <;> by_cases q : 0 ≤ f3 <;> simp [c, d, q]
      by_cases e4 : f0.toList = ([119, 105, 100, 101] : List UInt8)
      · simp only [e4]
        by_cases c : 0 ≤ f2 <;> by_cases d : f2 ≤ 31 <;> by_cases q : 0 ≤ f3 <;> simp [c, d, q]
      · simp only [e0, e1, e2, e3, e4, e2b, if_false, Bool.false_eq_true, Bool.and_false]
    · simp [h1, h2]
  · simp [h1]
theorem ok_of {m : S37} (h : validB m = true) : OkM m := by
  obtain ⟨f0, f1, f2, f3⟩ := m
  unfold validB at h
  simp only [Bool.and_eq_true, decide_eq_true_eq] at h
  obtain ⟨⟨⟨⟨h1, h2⟩, h3⟩, h4⟩, h5⟩ := h
  unfold OkM
  simp only []
  by_cases e0 : f0.toList = ([111, 110] : List UInt8)
  · simp only [e0, if_true, Bool.and_eq_true, decide_eq_true_eq] at h5
    omega
  by_cases e1 : f0.toList = ([111, 102, 102] : List UInt8)
  · simp only [e0, e1, if_true, if_false, Bool.and_eq_true, decide_eq_true_eq] at h5
    have h5 : f2 ≤ 127 ∧ f3 ≤ 127 := by simpa using h5
    omega
  by_cases e2 : f0.toList = ([99, 111, 110, 116, 114, 111, 108] : List UInt8)
  · simp only [e0, e1, e2, if_true, if_false, Bool.and_eq_true, decide_eq_true_eq] at h5
    have h5 : f2 ≤ 127 ∧ f3 ≤ 127 := by simpa using h5
    omega
  refine ⟨h1, h2, h3, ?_, h4, ?_, .inr ⟨e0, e1, e2⟩⟩
  all_goals
    rw [if_neg e0, if_neg e1, if_neg e2] at h5
    by_cases e3 : f0.toList = ([98, 101, 110, 100] : List UInt8)
    · rw [if_pos e3] at h5
      simp only [Bool.and_eq_true, decide_eq_true_eq] at h5
      omega
    · rw [if_neg e3] at h5
      by_cases e4 : f0.toList = ([119, 105, 100, 101] : List UInt8)
      · rw [if_pos e4] at h5
        simp only [Bool.and_eq_true, decide_eq_true_eq] at h5
        omega
      · rw [if_neg e4] at h5
        cases h5
theorem putM_len (run : Bool) (s : Int × List Int) (m : S37) : (putM run s m).2.length ≤ s.2.length + 6 := by
  have h1 : ∀ s t, (putT run s t).2.length ≤ s.2.length + 3 := fun s t => by
    have := putB_len run s.1 t.1 t.2.1 t.2.2
    simp only [putT, List.length_append]; omega
  unfold putM tripsOf
  repeat' split
  all_goals simp only [List.foldl_cons, List.foldl_nil]
  all_goals first | (have := h1 s (144 + m.f1, m.f2, m.f3); omega) | (have := h1 s (128 + m.f1, m.f2, m.f3); omega) | (have := h1 s (176 + m.f1, m.f2, m.f3); omega) | (have := h1 s (224 + m.f1, m.f3 % 128, m.f3 / 128); omega) | (have a := h1 s (176 + m.f1, m.f2, m.f3 / 128); have b := h1 (putT run s (176 + m.f1, m.f2, m.f3 / 128)) (176 + m.f1, m.f2 + 32, m.f3 % 128); omega) | omega
/-- What is written. -/
def wrote (run : Bool) (l : List S37) (s : Int × List Int) : Int × List Int := l.foldl (putM run) s
theorem write_is (k : Nat) (run : Bool) (l : List S37) : ∀ (last : Int) (out : List Int), out.length + 6 * l.length ≤ 90000 → writeL (k + 2) run l last out = some (if l.all validB = true then ((wrote run l (last, out)).2, 0) else ([], 2)) := by
  induction l with
  | nil => intro last out _; rfl
  | cons m l ih =>
    intro last out hl
    unfold writeL
    rw [valid_is, Option.bind_some, List.all_cons]
    by_cases h : validB m = true
    · rw [if_pos h, if_pos ⟨ok_of h, by simp at hl; omega⟩, ih _ _ (by have := putM_len run (last, out) m; simp at hl this; omega), h, Bool.true_and]
      rfl
    · rw [if_neg h]
      simp [h]
theorem ev_at {α : Type} {g : Nat → Option α} {r : α} (n : Nat) (h : ∀ k, g (k + n) = some r) : Ev g r := ⟨n, fun k hk => by have := h (k - n); rwa [Nat.sub_add_cancel hk] at this⟩
def plainOf (m : S37) : List S37 := if m.f0.toList = ([119, 105, 100, 101] : List UInt8) then [⟨⟨#[99, 111, 110, 116, 114, 111, 108]⟩, m.f1, m.f2, m.f3 / 128⟩, ⟨⟨#[99, 111, 110, 116, 114, 111, 108]⟩, m.f1, m.f2 + 32, m.f3 % 128⟩] else [m]
theorem plainOf_len (m : S37) : (plainOf m).length ≤ 2 := by unfold plainOf; split <;> simp
theorem flat_len (l : List S37) : (l.flatMap plainOf).length ≤ 2 * l.length := by
  induction l with
  | nil => simp
  | cons m l ih => rw [List.flatMap_cons, List.length_append, List.length_cons]; have := plainOf_len m; omega
theorem rd_at {l : List S37} {i : Nat} (h : i < l.length) : rd_T37 l (i : Int) = l[i] := by unfold rd_T37; simp [h]
theorem all_at {l : List S37} (h : l.all validB = true) {i : Nat} (hi : i < l.length) : validB l[i] = true := List.all_eq_true.1 h _ (List.getElem_mem hi)
theorem plain_is (l : List S37) (hl : l.length ≤ 400) (hv : l.all validB = true) : Ev (fun k => serinetteref21_plain.f k l) (l.flatMap plainOf) := by
  have H : ∀ d (i : Nat) (x3 : List S37), l.length - i = d → i ≤ l.length → x3.length ≤ 2 * i → Ev (fun k => serinetteref21_plain.l0 k x3 l (l.length : Int) (i : Int)) (x3 ++ (l.drop i).flatMap plainOf) := by
    intro d
    induction d with
    | zero =>
      intro i x3 hd hi hx
      refine Ev.step (fun k => serinetteref21_plain.l0.eq_2 ..) ?_
      simp only [if_neg (show ¬ ((i : Int) < (l.length : Int)) by omega)]
      rw [List.drop_of_length_le (by omega)]
      simpa using Ev.now x3
    | succ d ih =>
      intro i x3 hd hi hx
      have hlt : i < l.length := by omega
      refine Ev.step (fun k => serinetteref21_plain.l0.eq_2 ..) ?_
      simp only [if_pos (show (i : Int) < (l.length : Int) by omega), if_pos (show 0 ≤ (i : Int) by omega)]
      have hw : wrap64 ((i : Int) + 1) = ((i + 1 : Nat) : Int) := by unfold wrap64; omega
      obtain ⟨k0, k1, k2, k3, k4, k5, _⟩ := ok_of (all_at hv hlt)
      rw [List.drop_eq_getElem_cons hlt, List.flatMap_cons]
      simp only [rd_at hlt, hw]
      by_cases c : (l[i]).f0.toList = ([119, 105, 100, 101] : List UInt8)
      · have e1 : wrap64 (Int.tdiv (l[i]).f3 128) = (l[i]).f3 / 128 := by rw [Int.tdiv_eq_ediv_of_nonneg k4]; unfold wrap64; omega
        have e2 : Int.tmod (l[i]).f3 128 = (l[i]).f3 % 128 := Int.tmod_eq_emod_of_nonneg k4
        have e3 : wrap64 ((l[i]).f2 + 32) = (l[i]).f2 + 32 := by unfold wrap64; omega
        simp only [if_pos c, if_pos (show x3.length < 3518437208883 by omega), Option.bind_some, e1, e2, e3]
        simp only [if_pos (show (x3 ++ [(⟨⟨#[99, 111, 110, 116, 114, 111, 108]⟩, (l[i]).f1, (l[i]).f2, (l[i]).f3 / 128⟩ : S37)]).length < 3518437208883 by simp; omega)]
        have := ih (i + 1) (x3 ++ [(⟨⟨#[99, 111, 110, 116, 114, 111, 108]⟩, (l[i]).f1, (l[i]).f2, (l[i]).f3 / 128⟩ : S37)] ++ [(⟨⟨#[99, 111, 110, 116, 114, 111, 108]⟩, (l[i]).f1, (l[i]).f2 + 32, (l[i]).f3 % 128⟩ : S37)]) (by omega) (by omega) (by simp; omega)
        rw [show plainOf l[i] = [(⟨⟨#[99, 111, 110, 116, 114, 111, 108]⟩, (l[i]).f1, (l[i]).f2, (l[i]).f3 / 128⟩ : S37)] ++ [(⟨⟨#[99, 111, 110, 116, 114, 111, 108]⟩, (l[i]).f1, (l[i]).f2 + 32, (l[i]).f3 % 128⟩ : S37)] by unfold plainOf; rw [if_pos c]; rfl]
        simpa [List.append_assoc] using this
      · simp only [if_neg c, if_pos (show x3.length < 3518437208883 by omega)]
        have := ih (i + 1) (x3 ++ [l[i]]) (by omega) (by omega) (by simp; omega)
        rw [show plainOf l[i] = [l[i]] by unfold plainOf; rw [if_neg c]]
        simpa [List.append_assoc] using this
  unfold serinetteref21_plain.f
  have := H _ 0 [] rfl (Nat.zero_le _) (Nat.zero_le _)
  simpa using this
/-- A message that is written as three bytes. -/
def Three (m : S37) : Prop := ∃ s a b : Int, tripsOf m = [(s, a, b)] ∧ serinetteref21_three.f m.f0 m.f1 m.f2 m.f3 = some [s, a, b] ∧ 128 ≤ s ∧ s ≤ 239 ∧ 0 ≤ a ∧ a ≤ 127 ∧ 0 ≤ b ∧ b ≤ 127
theorem three_of {m : S37} (h : validB m = true) (hw : m.f0.toList ≠ ([119, 105, 100, 101] : List UInt8)) : Three m := by
  obtain ⟨k0, k1, k2, k3, k4, k5, k6⟩ := ok_of h
  obtain ⟨f0, f1, f2, f3⟩ := m
  unfold validB at h
  simp only [Bool.and_eq_true, decide_eq_true_eq] at h k0 k1 k2 k3 k4 k5 k6
  obtain ⟨_, h⟩ := h
  unfold Three tripsOf serinetteref21_three.f
  simp only [] at hw ⊢
  by_cases e0 : f0.toList = ([111, 110] : List UInt8)
  · have : f3 ≤ 127 := k6.elim id (fun k => absurd e0 k.1)
    simp only [if_pos e0]
    exact ⟨_, _, _, rfl, by rw [show (144 + f1 % 256) % 256 = 144 + f1 by omega, show f2 % 256 = f2 by omega, show f3 % 256 = f3 by omega], by omega, by omega, by omega, by omega, by omega, by omega⟩
  by_cases e1 : f0.toList = ([111, 102, 102] : List UInt8)
  · have : f3 ≤ 127 := k6.elim id (fun k => absurd e1 k.2.1)
    simp only [if_neg e0, if_pos e1]
    exact ⟨_, _, _, rfl, by rw [show (128 + f1 % 256) % 256 = 128 + f1 by omega, show f2 % 256 = f2 by omega, show f3 % 256 = f3 by omega], by omega, by omega, by omega, by omega, by omega, by omega⟩
  by_cases e2 : f0.toList = ([99, 111, 110, 116, 114, 111, 108] : List UInt8)
  · have : f3 ≤ 127 := k6.elim id (fun k => absurd e2 k.2.2)
    simp only [if_neg e0, if_neg e1, if_pos e2]
    exact ⟨_, _, _, rfl, by rw [show (176 + f1 % 256) % 256 = 176 + f1 by omega, show f2 % 256 = f2 by omega, show f3 % 256 = f3 by omega], by omega, by omega, by omega, by omega, by omega, by omega⟩
  by_cases e3 : f0.toList = ([98, 101, 110, 100] : List UInt8)
  · simp only [if_neg e0, if_neg e1, if_neg e2, if_pos e3]
    refine ⟨_, _, _, rfl, ?_, by omega, by omega, by omega, by omega, by omega, by omega⟩
    rw [Int.tmod_eq_emod_of_nonneg k4, Int.tdiv_eq_ediv_of_nonneg k4, show (224 + f1 % 256) % 256 = 224 + f1 by omega, show f3 % 128 % 256 = f3 % 128 by omega, show wrap64 (f3 / 128) % 256 = f3 / 128 by unfold wrap64; omega]
  · rw [if_neg e0, if_neg e1, if_neg e2, if_neg e3, if_neg hw] at h
    cases h
theorem three_flat {l : List S37} (hv : l.all validB = true) : ∀ m ∈ l.flatMap plainOf, Three m := by
  intro m hm
  obtain ⟨x, hx, hm⟩ := List.mem_flatMap.1 hm
  have hvx := List.all_eq_true.1 hv x hx
  obtain ⟨k0, k1, k2, k3, k4, k5, k6⟩ := ok_of hvx
  unfold plainOf at hm
  by_cases c : x.f0.toList = ([119, 105, 100, 101] : List UInt8)
  · have hk : x.f2 ≤ 31 := by
      unfold validB at hvx
      simp only [c, Bool.and_eq_true, decide_eq_true_eq] at hvx
      have := hvx.2
      simp at this
      exact this.1
    rw [if_pos c] at hm
    have a3 : ∀ (v a : Int), 0 ≤ a → a ≤ 127 → 0 ≤ v → v ≤ 127 → Three ⟨⟨#[99, 111, 110, 116, 114, 111, 108]⟩, x.f1, a, v⟩ := fun v a ha0 ha1 hv0 hv1 => by
      refine three_of ?_ (by simp only [tl_control]; decide)
      unfold validB
      simp only [tl_control]
      simp
      omega
    simp only [List.mem_cons, List.not_mem_nil, or_false] at hm
    rcases hm with rfl | rfl
    · exact a3 _ _ k2 k3 (by omega) (by omega)
    · exact a3 _ _ (by omega) (by omega) (by omega) (by omega)
  · rw [if_neg c] at hm
    simp only [List.mem_cons, List.not_mem_nil, or_false] at hm
    subst hm
    exact three_of hvx c
theorem putM_three {m : S37} {s a b : Int} (h : tripsOf m = [(s, a, b)]) (run : Bool) (p : Int × List Int) : putM run p m = (s, p.2 ++ putB run p.1 s a b) := by
  unfold putM; rw [h]; rfl
theorem wrote_flat (run : Bool) {l : List S37} (hv : l.all validB = true) (s : Int × List Int) : wrote run (l.flatMap plainOf) s = wrote run l s := by
  induction l generalizing s with
  | nil => rfl
  | cons m l ih =>
    rw [List.all_cons, Bool.and_eq_true] at hv
    rw [List.flatMap_cons]
    unfold wrote at *
    rw [List.foldl_append, ih hv.2, List.foldl_cons]
    congr 1
    unfold plainOf
    by_cases c : m.f0.toList = ([119, 105, 100, 101] : List UInt8)
    · rw [if_pos c]
      simp only [List.foldl_cons, List.foldl_nil]
      have e : tripsOf m = [(176 + m.f1, m.f2, m.f3 / 128), (176 + m.f1, m.f2 + 32, m.f3 % 128)] := by
        unfold tripsOf
        rw [c]
        rfl
      have t : ∀ a v : Int, tripsOf ⟨⟨#[99, 111, 110, 116, 114, 111, 108]⟩, m.f1, a, v⟩ = [(176 + m.f1, a, v)] := fun a v => by
        unfold tripsOf
        simp only [tl_control]
        rfl
      rw [putM_three (t _ _), putM_three (t _ _)]
      unfold putM
      rw [e]
      rfl
    · rw [if_neg c]; rfl
theorem l1_is (run : Bool) (p : List S37) (hp : p.length ≤ 800) (h3 : ∀ m ∈ p, Three m) : ∀ d (i : Nat) (last : Int) (out : List Int), p.length - i = d → i ≤ p.length → out.length ≤ 3 * i →
    Ev (fun k => serinetteref21_Write.l1 k run out last p (p.length : Int) (i : Int)) ((wrote run (p.drop i) (last, out)).2, 0) := by
  intro d
  induction d with
  | zero =>
    intro i last out hd hi ho
    refine Ev.step (fun k => serinetteref21_Write.l1.eq_2 ..) ?_
    simp only [if_neg (show ¬ ((i : Int) < (p.length : Int)) by omega)]
    rw [List.drop_of_length_le (by omega)]
    exact Ev.now _
  | succ d ih =>
    intro i last out hd hi ho
    have hlt : i < p.length := by omega
    refine Ev.step (fun k => serinetteref21_Write.l1.eq_2 ..) ?_
    have hw : wrap64 ((i : Int) + 1) = ((i + 1 : Nat) : Int) := by unfold wrap64; omega
    obtain ⟨s, a, b, ht, hf, _⟩ := h3 p[i] (List.getElem_mem hlt)
    rw [List.drop_eq_getElem_cons hlt]
    have hwr : wrote run (p[i] :: p.drop (i + 1)) (last, out) = wrote run (p.drop (i + 1)) (s, out ++ putB run last s a b) := by
      unfold wrote; rw [List.foldl_cons, putM_three ht]
    rw [hwr]
    have hrd : rd [s, a, b] 0 = s := rfl
    have hpl := putB_len run last s a b
    have hn := ih (i + 1) s (out ++ putB run last s a b) (by omega) (by omega) (by simp; omega)
    rw [← hw] at hn
    simp only [if_pos (show (i : Int) < (p.length : Int) by omega), if_pos (show 0 ≤ (i : Int) by omega), rd_at hlt, hf, Option.bind_some, List.length_cons, List.length_nil, hrd]
    cases run with
    | true =>
      by_cases c : s = last
      · have e : putB true last s a b = [a, b] := by unfold putB; rw [if_pos ⟨rfl, c⟩]
        rw [e] at hn ⊢
        simp only [if_true, if_pos c]
        refine hn.congr fun k => ?_
        simp
        intro hh; omega
      · have e : putB true last s a b = [s, a, b] := by unfold putB; rw [if_neg (by simp [c])]
        rw [e] at hn ⊢
        simp only [if_true, if_neg c]
        refine hn.congr fun k => ?_
        simp
        intro hh; omega
    | false =>
      have e : putB false last s a b = [s, a, b] := by unfold putB; rw [if_neg (by simp)]
      rw [e] at hn ⊢
      refine hn.congr fun k => ?_
      simp
      intro hh; omega
theorem rwrite_is (run : Bool) (l : List S37) (hl : l.length ≤ 400) : Ev (fun k => serinetteref21_Write.f k l run) (if l.all validB = true then ((wrote run l (0, [])).2, 0) else ([], 2)) := by
  have H : ∀ d (i : Nat), l.length - i = d → i ≤ l.length → (l.take i).all validB = true → Ev (fun k => serinetteref21_Write.l0 k l run l (l.length : Int) (i : Int)) (if l.all validB = true then ((wrote run l (0, [])).2, 0) else ([], 2)) := by
    intro d
    induction d with
    | zero =>
      intro i hd hi ha
      rw [List.take_of_length_le (by omega)] at ha
      refine Ev.step (fun k => serinetteref21_Write.l0.eq_2 ..) ?_
      simp only [if_neg (show ¬ ((i : Int) < (l.length : Int)) by omega), ha, if_true]
      have h1 := l1_is run (l.flatMap plainOf) (by have := flat_len l; omega) (three_flat ha) _ 0 0 [] rfl (Nat.zero_le _) (Nat.zero_le _)
      rw [List.drop_zero, wrote_flat run ha] at h1
      exact Ev.bind (f := fun k t => serinetteref21_Write.l1 k run ([] : List Int) 0 t (t.length : Int) 0) (plain_is l hl ha) h1
    | succ d ih =>
      intro i hd hi ha
      have hlt : i < l.length := by omega
      refine Ev.step (fun k => serinetteref21_Write.l0.eq_2 ..) ?_
      have hw : wrap64 ((i : Int) + 1) = ((i + 1 : Nat) : Int) := by unfold wrap64; omega
      simp only [if_pos (show (i : Int) < (l.length : Int) by omega), if_pos (show 0 ≤ (i : Int) by omega), hw]
      refine Ev.bind (f := fun k t => if t = true then serinetteref21_Write.l0 k l run l (l.length : Int) ((i + 1 : Nat) : Int) else some (([] : List Int), 2)) (ev_at 1 fun k => rvalid_is k _) ?_
      rw [rd_at hlt]
      by_cases c : validB l[i] = true
      · simp only [c, if_true]
        refine ih (i + 1) (by omega) (by omega) ?_
        rw [List.take_add_one, List.getElem?_eq_getElem hlt, List.all_append, ha, Bool.true_and]
        simp [c]
      · have hn : ¬ l.all validB = true := fun h => c (all_at h hlt)
        simp only [if_neg c, if_neg hn]
        exact Ev.now _
  exact H _ 0 rfl (Nat.zero_le _) rfl
theorem rdRun_append (s : Int × List Int × List Int) (x y : List Int) : rdRun s (x ++ y) = ((rdRun (rdRun s x).1 y).1, (rdRun s x).2 ++ (rdRun (rdRun s x).1 y).2) := by
  refine snoc_ind (P := fun y => rdRun s (x ++ y) = ((rdRun (rdRun s x).1 y).1, (rdRun s x).2 ++ (rdRun (rdRun s x).1 y).2)) ?_ (fun l c ih => ?_) y
  · rw [List.append_nil]; simp [rdRun]
  · rw [← List.append_assoc, rdRun_snoc, ih, rdRun_snoc]
    simp
/-- A message that comes back just so. -/
def Simple (m : S37) : Prop := validB m = true ∧ m.f0.toList ≠ ([119, 105, 100, 101] : List UInt8) ∧ ¬ (m.f0.toList = ([99, 111, 110, 116, 114, 111, 108] : List UInt8) ∧ 32 ≤ m.f2 ∧ m.f2 < 64)
theorem step_status (s : Int × List Int × List Int) (c : Int) (h0 : 128 ≤ c) (h1 : c ≤ 239) : rdStep s c = ((c, [], s.2.2), []) := by
  unfold rdStep
  rw [if_neg (by omega), if_neg (by omega), if_pos (by omega)]
theorem step_first (st : Int) (hi : List Int) (c : Int) (h0 : 0 ≤ c) (h1 : c ≤ 127) (hs : 0 < st) (hw : wantsOf st = 2) : rdStep (st, [], hi) c = ((st, [c], hi), []) := by
  unfold rdStep
  rw [if_neg (by omega), if_neg (by omega), if_neg (by omega), if_pos hs, if_neg (by simp [hw])]
  rfl
theorem step_second (st a : Int) (hi : List Int) (c : Int) (h0 : 0 ≤ c) (h1 : c ≤ 127) (hs : 0 < st) (hw : wantsOf st = 2) : rdStep (st, [a], hi) c = ((st, [], hiOf st a c hi), msgsOf st a c hi) := by
  unfold rdStep
  rw [if_neg (by omega), if_neg (by omega), if_neg (by omega), if_pos hs, if_pos (by simp [hw])]
  rfl
theorem run_put (run : Bool) (last s a b : Int) (hi : List Int) (h0 : 128 ≤ s) (h1 : s ≤ 239) (hw : wantsOf s = 2) (a0 : 0 ≤ a) (a1 : a ≤ 127) (b0 : 0 ≤ b) (b1 : b ≤ 127) : rdRun (last, [], hi) (putB run last s a b) = ((s, [], hiOf s a b hi), msgsOf s a b hi) := by
  unfold putB
  by_cases c : run = true ∧ s = last
  · rw [if_pos c]
    obtain ⟨_, rfl⟩ := c
    simp only [rdRun, List.foldl_cons, List.foldl_nil]
    rw [step_first s hi a a0 a1 (by omega) hw, step_second s a hi b b0 b1 (by omega) hw]
    simp
  · rw [if_neg c]
    simp only [rdRun, List.foldl_cons, List.foldl_nil]
    rw [step_status _ s h0 h1, step_first s hi a a0 a1 (by omega) hw, step_second s a hi b b0 b1 (by omega) hw]
    simp
theorem run_simple (run : Bool) (last : Int) (hi : List Int) (m : S37) (h : Simple m) : ∃ s a b hi' m', tripsOf m = [(s, a, b)] ∧ rdRun (last, [], hi) (putB run last s a b) = ((s, [], hi'), [m']) ∧ Alike m' m := by
  obtain ⟨h, hw, hc⟩ := h
  obtain ⟨k0, k1, k2, k3, k4, k5, k6⟩ := ok_of h
  obtain ⟨f0, f1, f2, f3⟩ := m
  unfold validB at h
  simp only [Bool.and_eq_true, decide_eq_true_eq] at h k0 k1 k2 k3 k4 k5 k6 hw hc
  obtain ⟨_, h⟩ := h
  have wt : ∀ s : Int, s / 16 ≠ 12 → s / 16 ≠ 13 → wantsOf s = 2 := fun s e1 e2 => by unfold wantsOf; rw [if_neg (by omega)]
  by_cases e0 : f0.toList = ([111, 110] : List UInt8)
  · have : f3 ≤ 127 := k6.elim id (fun k => absurd e0 k.1)
    have h1 : 1 ≤ f3 := by rw [if_pos e0] at h; simp at h; omega
    refine ⟨144 + f1, f2, f3, hiOf (144 + f1) f2 f3 hi, ⟨⟨#[111, 110]⟩, (144 + f1) % 16, f2, f3⟩, by unfold tripsOf; simp only [e0, if_true], by rw [run_put run last _ _ _ hi (by omega) (by omega) (wt _ (by omega) (by omega)) k2 k3 k4 this]; unfold msgsOf; rw [if_neg (by omega), if_pos (by omega), if_neg (by omega)], ⟨by simp only [tl_on, e0], by simp only []; omega, rfl, rfl⟩⟩
  by_cases e1 : f0.toList = ([111, 102, 102] : List UInt8)
  · have : f3 ≤ 127 := k6.elim id (fun k => absurd e1 k.2.1)
    refine ⟨128 + f1, f2, f3, hiOf (128 + f1) f2 f3 hi, ⟨⟨#[111, 102, 102]⟩, (128 + f1) % 16, f2, f3⟩, by unfold tripsOf; simp only [if_neg e0, if_pos e1], by rw [run_put run last _ _ _ hi (by omega) (by omega) (wt _ (by omega) (by omega)) k2 k3 k4 this]; unfold msgsOf; rw [if_pos (by omega)], ⟨by simp only [tl_off, e1], by simp only []; omega, rfl, rfl⟩⟩
  by_cases e2 : f0.toList = ([99, 111, 110, 116, 114, 111, 108] : List UInt8)
  · have : f3 ≤ 127 := k6.elim id (fun k => absurd e2 k.2.2)
    by_cases c : f2 < 32
    · refine ⟨176 + f1, f2, f3, hiOf (176 + f1) f2 f3 hi, ⟨⟨#[99, 111, 110, 116, 114, 111, 108]⟩, (176 + f1) % 16, f2, f3⟩, by unfold tripsOf; simp only [if_neg e0, if_neg e1, if_pos e2], by rw [run_put run last _ _ _ hi (by omega) (by omega) (wt _ (by omega) (by omega)) k2 k3 k4 this]; unfold msgsOf; rw [if_neg (by omega), if_neg (by omega), if_pos (by omega), if_pos c], ⟨by simp only [tl_control, e2], by simp only []; omega, rfl, rfl⟩⟩
    · have c' : ¬ f2 < 64 := fun c' => hc ⟨e2, by omega, c'⟩
      refine ⟨176 + f1, f2, f3, hiOf (176 + f1) f2 f3 hi, ⟨⟨#[99, 111, 110, 116, 114, 111, 108]⟩, (176 + f1) % 16, f2, f3⟩, by unfold tripsOf; simp only [if_neg e0, if_neg e1, if_pos e2], by rw [run_put run last _ _ _ hi (by omega) (by omega) (wt _ (by omega) (by omega)) k2 k3 k4 this]; unfold msgsOf; rw [if_neg (by omega), if_neg (by omega), if_pos (by omega), if_neg c, if_neg c'], ⟨by simp only [tl_control, e2], by simp only []; omega, rfl, rfl⟩⟩
  by_cases e3 : f0.toList = ([98, 101, 110, 100] : List UInt8)
  · have hz : f2 = 0 := by rw [if_neg e0, if_neg e1, if_neg e2, if_pos e3] at h; simp at h; omega
    refine ⟨224 + f1, f3 % 128, f3 / 128, hiOf (224 + f1) (f3 % 128) (f3 / 128) hi, ⟨⟨#[98, 101, 110, 100]⟩, (224 + f1) % 16, 0, wrap64 (f3 % 128 + wrap64 (128 * (f3 / 128)))⟩, by unfold tripsOf; simp only [if_neg e0, if_neg e1, if_neg e2, if_pos e3], by rw [run_put run last _ _ _ hi (by omega) (by omega) (wt _ (by omega) (by omega)) (by omega) (by omega) (by omega) (by omega)]; unfold msgsOf; rw [if_neg (by omega), if_neg (by omega), if_neg (by omega), if_pos (by omega)], ⟨by simp only [tl_bend, e3], by simp only []; omega, by simp only []; omega, ?_⟩⟩
    show wrap64 (f3 % 128 + wrap64 (128 * (f3 / 128))) = f3
    rw [show wrap64 (128 * (f3 / 128)) = 128 * (f3 / 128) by unfold wrap64; omega]
    unfold wrap64; omega
  · rw [if_neg e0, if_neg e1, if_neg e2, if_neg e3, if_neg hw] at h
    cases h
theorem read_back (run : Bool) (l : List S37) (hs : ∀ m ∈ l, Simple m) : ∀ (last : Int) (out : List Int) (hi : List Int) (ms : List S37), rdRun st0 out = ((last, [], hi), ms) → ∃ last' hi' ms', rdRun st0 (wrote run l (last, out)).2 = ((last', [], hi'), ms ++ ms') ∧ Alikes ms' l := by
  induction l with
  | nil => intro last out hi ms h; exact ⟨last, hi, [], by simpa [wrote] using h, .nil⟩
  | cons m l ih =>
    intro last out hi ms h
    obtain ⟨s, a, b, hi', m', ht, hr, hm⟩ := run_simple run last hi m (hs m (List.mem_cons_self ..))
    have hn : rdRun st0 (out ++ putB run last s a b) = ((s, [], hi'), ms ++ [m']) := by
      rw [rdRun_append, h]; simp only []; rw [hr]
    obtain ⟨l2, h2, ms2, e, hA⟩ := ih (fun x hx => hs x (List.mem_cons_of_mem _ hx)) s _ hi' _ hn
    refine ⟨l2, h2, m' :: ms2, ?_, .cons hm hA⟩
    unfold wrote at e ⊢
    rw [List.foldl_cons, putM_three ht]
    simpa using e
theorem wrote_bytes (run : Bool) (l : List S37) (h3 : ∀ m ∈ l, Three m) : ∀ (last : Int) (out : List Int), (∀ x ∈ out, 0 ≤ x ∧ x ≤ 255) → (∀ x ∈ (wrote run l (last, out)).2, 0 ≤ x ∧ x ≤ 255) := by
  induction l with
  | nil => intro last out h; exact h
  | cons m l ih =>
    intro last out h
    obtain ⟨s, a, b, ht, _, h1, h2, h4, h5, h6, h7⟩ := h3 m (List.mem_cons_self ..)
    have := ih (fun x hx => h3 x (List.mem_cons_of_mem _ hx)) s (out ++ putB run last s a b) (by
      intro x hx
      rcases List.mem_append.1 hx with hx | hx
      · exact h x hx
      · unfold putB at hx
        split at hx <;> simp at hx <;> omega)
    unfold wrote at this ⊢
    rw [List.foldl_cons, putM_three ht]
    exact this
theorem wrote_len (run : Bool) (l : List S37) : ∀ (s : Int × List Int), (wrote run l s).2.length ≤ s.2.length + 6 * l.length := by
  induction l with
  | nil => intro s; exact Nat.le_refl _
  | cons m l ih =>
    intro s
    have := ih (putM run s m)
    have h2 := putM_len run s m
    unfold wrote at this ⊢
    rw [List.foldl_cons, List.length_cons]
    omega
theorem back_is (run : Bool) (l : List S37) (hl : l.length ≤ 400) (hv : l.all validB = true) (b : List Int) (hb : b = (wrote run l (0, [])).2) (hbl : b.length ≤ 100000) (hbx : ∀ x ∈ b, 0 ≤ x ∧ x ≤ 255) : Ev (fun k => serinettelaw21_plain.f k l b) true := by
  have H : ∀ d (i : Nat), l.length - i = d → i ≤ l.length → (∀ m ∈ l.take i, Simple m) → Ev (fun k => serinettelaw21_plain.l0 k l b l (l.length : Int) (i : Int)) true := by
    intro d
    induction d with
    | zero =>
      intro i hd hi hs
      rw [List.take_of_length_le (by omega)] at hs
      refine Ev.step (fun k => serinettelaw21_plain.l0.eq_2 ..) ?_
      simp only [if_neg (show ¬ ((i : Int) < (l.length : Int)) by omega), read_is _ b hbl hbx, Option.bind_some]
      obtain ⟨_, _, ms, e, hA⟩ := read_back run l hs 0 [] (List.replicate 512 0) [] rfl
      rw [← hb, List.nil_append] at e
      rw [e]
      have := same_of hA (by rw [hA.len]; omega)
      exact Ev.bind (f := fun _ t => some t) this (Ev.now true)
    | succ d ih =>
      intro i hd hi hs
      have hlt : i < l.length := by omega
      refine Ev.step (fun k => serinettelaw21_plain.l0.eq_2 ..) ?_
      have hw : wrap64 ((i : Int) + 1) = ((i + 1 : Nat) : Int) := by unfold wrap64; omega
      simp only [if_pos (show (i : Int) < (l.length : Int) by omega), if_pos (show 0 ≤ (i : Int) by omega), hw, rd_at hlt]
      have hgo : (l[i]).f0.toList ≠ ([119, 105, 100, 101] : List UInt8) → ¬ ((l[i]).f0.toList = ([99, 111, 110, 116, 114, 111, 108] : List UInt8) ∧ 32 ≤ (l[i]).f2 ∧ (l[i]).f2 < 64) → Ev (fun k => serinettelaw21_plain.l0 k l b l (l.length : Int) ((i + 1 : Nat) : Int)) true := fun c1 c2 => by
        refine ih (i + 1) (by omega) (by omega) ?_
        rw [List.take_add_one, List.getElem?_eq_getElem hlt]
        intro m hm
        rcases List.mem_append.1 hm with hm | hm
        · exact hs m hm
        · simp at hm
          subst hm
          exact ⟨all_at hv hlt, c1, c2⟩
      by_cases c : (l[i]).f0.toList = ([119, 105, 100, 101] : List UInt8)
      · simp only [if_pos c]; exact Ev.now true
      · simp only [if_neg c]
        by_cases c2 : (l[i]).f0.toList = ([99, 111, 110, 116, 114, 111, 108] : List UInt8)
        · simp only [if_pos c2]
          by_cases c3 : (l[i]).f2 ≥ 32
          · simp only [if_pos c3]
            by_cases c4 : (l[i]).f2 < 64
            · simp only [if_pos c4]; exact Ev.now true
            · simp only [if_neg c4]; exact hgo c (fun h => c4 h.2.2)
          · simp only [if_neg c3]; exact hgo c (fun h => c3 h.2.1)
        · simp only [if_neg c2]; exact hgo c (fun h => c2 h.1)
  exact H _ 0 rfl (Nat.zero_le _) (by simp)
theorem law_is (run : Bool) (l : List S37) (hl : l.length ≤ 400) : Ev (fun k => serinettelaw21_MessagesBack.l0 k l run l (l.length : Int) 0) true := by
  have H : ∀ d (i : Nat), l.length - i = d → i ≤ l.length → Ev (fun k => serinettelaw21_MessagesBack.l0 k l run l (l.length : Int) (i : Int)) true := by
    intro d
    induction d with
    | zero =>
      intro i hd hi
      refine Ev.step (fun k => serinettelaw21_MessagesBack.l0.eq_2 ..) ?_
      simp only [if_neg (show ¬ ((i : Int) < (l.length : Int)) by omega)]
      have hW : Ev (fun k => message_Write.f k l run) (if l.all validB = true then ((wrote run l (0, [])).2, 0) else ([], 2)) := ev_at 2 fun k => write_is k run l 0 [] (by simp; omega)
      refine Ev.bind (f := fun k (bt186 : List Int × Int) => (serinetteref21_Write.f k l run).bind fun bt190 => (if bt186.2 = bt190.2 then (serinettelaw21_MessagesBack.j1 k l bt186.1 bt190.1 bt190.2 ((strOfNums bt186.1).toList != (strOfNums bt190.1).toList)) else (serinettelaw21_MessagesBack.j1 k l bt186.1 bt190.1 bt190.2 true))) hW ?_
      refine Ev.bind (f := fun k (bt190 : List Int × Int) => (if (if l.all validB = true then ((wrote run l (0, [])).2, 0) else ([], 2)).2 = bt190.2 then (serinettelaw21_MessagesBack.j1 k l (if l.all validB = true then ((wrote run l (0, [])).2, 0) else ([], 2)).1 bt190.1 bt190.2 ((strOfNums (if l.all validB = true then ((wrote run l (0, [])).2, 0) else ([], 2)).1).toList != (strOfNums bt190.1).toList)) else (serinettelaw21_MessagesBack.j1 k l (if l.all validB = true then ((wrote run l (0, [])).2, 0) else ([], 2)).1 bt190.1 bt190.2 true))) (rwrite_is run l hl) ?_
      simp only [if_true, bne_self_eq_false]
      refine Ev.step (fun k => serinettelaw21_MessagesBack.j1.eq_2 ..) ?_
      simp only [Bool.false_eq_true, if_false]
      by_cases c : l.all validB = true
      · simp only [if_pos c, if_true]
        have hfl := wrote_flat run c (0, [])
        have hbl : (wrote run l (0, [])).2.length ≤ 100000 := by have := wrote_len run l (0, []); simp at this; omega
        have hbx : ∀ x ∈ (wrote run l (0, [])).2, 0 ≤ x ∧ x ≤ 255 := by
          rw [← hfl]; exact wrote_bytes run _ (three_flat c) 0 [] (by simp)
        simp only [read_is _ _ hbl hbx, rread_is _ _ hbl hbx, Option.bind_some, awake_is]
        refine Ev.bind (f := fun k t => if t = true then (serinettelaw21_plain.f k l (wrote run l (0, [])).2).bind fun t202 => (if t202 = true then some true else some false) else some false) (same_of (Alikes.refl _) (by have := rdRun_len st0 (wrote run l (0, [])).2; omega)) ?_
        simp only [if_true]
        refine Ev.bind (f := fun k t => if t = true then some true else some false) (back_is run l hl c _ rfl hbl hbx) ?_
        exact Ev.now true
      · simp only [if_neg c, awake_is, Option.bind_some]
        exact Ev.now true
    | succ d ih =>
      intro i hd hi
      have hlt : i < l.length := by omega
      refine Ev.step (fun k => serinettelaw21_MessagesBack.l0.eq_2 ..) ?_
      have hw : wrap64 ((i : Int) + 1) = ((i + 1 : Nat) : Int) := by unfold wrap64; omega
      simp only [if_pos (show (i : Int) < (l.length : Int) by omega), if_pos (show 0 ≤ (i : Int) by omega), hw]
      refine Ev.bind (f := fun k t => (serinetteref21_Valid.f k ((rd_T37 l i).f0) ((rd_T37 l i).f1) ((rd_T37 l i).f2) ((rd_T37 l i).f3)).bind fun t185 => (if (t != t185) = true then (some false) else (serinettelaw21_MessagesBack.l0 k l run l (l.length : Int) ((i + 1 : Nat) : Int)))) (ev_at 2 fun k => valid_is k _) ?_
      refine Ev.bind (f := fun k t185 => (if (validB (rd_T37 l i) != t185) = true then (some false) else (serinettelaw21_MessagesBack.l0 k l run l (l.length : Int) ((i + 1 : Nat) : Int)))) (ev_at 1 fun k => rvalid_is k _) ?_
      simp only [bne_self_eq_false, Bool.false_eq_true, if_false]
      exact ih (i + 1) (by omega) (by omega)
  exact H _ 0 rfl (Nat.zero_le _)
theorem pure (l : List S37) (run : Bool) : ∃ k, serinettelaw21_MessagesBack.f k l run = some true := by
  refine Ev.rounds (g := fun k => serinettelaw21_MessagesBack.f k l run) ?_
  unfold serinettelaw21_MessagesBack.f
  by_cases h : (l.length : Int) > 400
  · simp only [if_pos h, awake_is, Option.bind_some]
    exact Ev.now true
  · simp only [if_neg h]
    exact law_is run l (by omega)
end Go.Proofs.Ytlaidcoickeihaa.Plain
