/- Of the statement ReaderFeeds: what it computes is true of any bytes and cuts (plain part). -/
import Derived.Test.YtlaidcoickeihaaPReaderFeedsx2
namespace Go.Proofs.Ytlaidcoickeihaa.Pure
open Go.RowKit Go.Proofs.Ytlaidcoickeihaa.PReaderFeeds Go.Proofs.YtlaidcoickeihaaW.PrintWords Go.Proofs.YtlaidcoickeihaaW.PrintLast
set_option linter.unusedVariables false
set_option linter.unusedSimpArgs false

def st0 : Int × List Int × List Int := (0, [], List.replicate 512 0)
theorem read_is (k : Nat) (b : List Int) (h : b.length ≤ 100000) (hx : ∀ x ∈ b, 0 ≤ x ∧ x ≤ 255) : message_Read.f k b = some (rdRun st0 b).2 := by
  unfold message_Read.f
  rw [if_pos ⟨h, hx⟩]
  rfl
theorem awake_is (k : Nat) : serinettelaw21_awake.f k = some true := by
  unfold serinettelaw21_awake.f
  rw [read_is k _ (by simp) (by intro x hx; simp at hx; omega)]
  have : (rdRun st0 [144, 60, 100, 62, 0]).2 = [⟨⟨#[111, 110]⟩, 0, 60, 100⟩, ⟨⟨#[111, 102, 102]⟩, 0, 62, 64⟩] := by
    kernel_rfl
  rw [this]
  have a1 : (⟨#[111, 110]⟩ : ByteArray).toList = [111, 110] := by first | decide +kernel | rfl | kernel_rfl
  have a2 : (⟨#[111, 102, 102]⟩ : ByteArray).toList = [111, 102, 102] := by first | decide +kernel | rfl | kernel_rfl
  simp [rd_T37, a1, a2]
theorem same_refl (l : List S37) (hl : l.length ≤ 1000000) : Ev (fun k => serinettelaw21_same.f k l l) true := by
  have H : ∀ d (i : Nat), l.length - i = d → i ≤ l.length → Ev (fun k => serinettelaw21_same.l0 k l l (l.length : Int) (i : Int)) true := by
    intro d
    induction d with
    | zero =>
      intro i hd hi
      refine Ev.step (fun k => serinettelaw21_same.l0.eq_2 ..) ?_
      simp only [if_neg (show ¬ ((i : Int) < (l.length : Int)) by omega)]
      exact Ev.now true
    | succ d ih =>
      intro i hd hi
      refine Ev.step (fun k => serinettelaw21_same.l0.eq_2 ..) ?_
      simp only [if_pos (show (i : Int) < (l.length : Int) by omega), if_pos (show 0 ≤ (i : Int) by omega), beq_self_eq_true, Bool.not_true, Bool.or_false, Bool.false_eq_true, if_false]
      have := ih (i + 1) (by omega) (by omega)
      rwa [show ((i + 1 : Nat) : Int) = wrap64 ((i : Int) + 1) by unfold wrap64; omega] at this
  unfold serinettelaw21_same.f
  simp only [if_true]
  exact H _ 0 rfl (Nat.zero_le _)
theorem u8_of {x : Int} (h : (Lit.int .u8 x).wf = true) : 0 ≤ x ∧ x ≤ 255 := by
  have h' : IntKind.u8.min ≤ x ∧ x ≤ IntKind.u8.max := by simpa [Lit.wf] using h
  have e1 : IntKind.u8.min = 0 := by decide
  have e2 : IntKind.u8.max = 255 := by decide
  omega
theorem rread_is (k : Nat) (b : List Int) (h : b.length ≤ 100000) (hx : ∀ x ∈ b, 0 ≤ x ∧ x ≤ 255) : serinetteref21_Read.f k b = some (rdRun st0 b).2 := by
  unfold serinetteref21_Read.f
  rw [if_pos ⟨h, hx⟩]
  rfl
theorem feeds_is (cs : List Int) : ∀ (s : RS) (rest : List Int), rest.length ≤ 2000 → Ev (fun k => feedsL k cs s rest) true := by
  induction cs with
  | nil =>
    intro s rest h
    unfold feedsL
    refine Ev.bind (f := fun k t => if t = true then serinettelaw21_awake.f k else some false) (same_refl _ (by have := rdRun_len s rest; omega)) ?_
    simp only [if_true, awake_is]
    exact Ev.now true
  | cons c cs ih =>
    intro s rest h
    unfold feedsL
    refine Ev.bind (f := fun k t => if t = true then feedsL k cs (rdRun s (rest.take (min (c % 7).toNat rest.length))).1 (rest.drop (min (c % 7).toNat rest.length)) else some false) (same_refl _ (by have := rdRun_len s (rest.take (min (c % 7).toNat rest.length)); have := List.length_take_le (min (c % 7).toNat rest.length) rest; omega)) ?_
    simp only [if_true]
    exact ih _ _ (by rw [List.length_drop]; omega)
theorem ReaderFeeds : serinettelaw21_ReaderFeeds.Pure := by
  intro l0 l1 h1 h2 h3 h4 h5 h6
  have hx0 : ∀ x ∈ l0, 0 ≤ x ∧ x ≤ 255 := fun x hx => u8_of (h3 x hx)
  have hx1 : ∀ x ∈ l1, 0 ≤ x ∧ x ≤ 255 := fun x hx => u8_of (h6 x hx)
  refine Ev.rounds (g := fun k => serinettelaw21_ReaderFeeds.f k l0 l1) ?_
  unfold serinettelaw21_ReaderFeeds.f
  by_cases c0 : l0.length > 2000
  · simp only [if_pos c0, awake_is]; exact Ev.now true
  by_cases c1 : l1.length > 400
  · simp only [if_neg c0, if_pos c1, awake_is]; exact Ev.now true
  simp only [if_neg c0, if_neg c1, if_pos (show (∀ x ∈ l0, 0 ≤ x ∧ x ≤ 255) ∧ (∀ x ∈ l1, 0 ≤ x ∧ x ≤ 255) from ⟨hx0, hx1⟩), read_is _ l0 (by omega) hx0, rread_is _ l0 (by omega) hx0, Option.bind_some]
  refine Ev.bind (f := fun k t => if t = true then feedsL k l1 st0' l0 else some false) (same_refl _ (by have := rdRun_len st0 l0; omega)) ?_
  simp only [if_true]
  exact feeds_is l1 _ _ (by omega)

end Go.Proofs.Ytlaidcoickeihaa.Pure
