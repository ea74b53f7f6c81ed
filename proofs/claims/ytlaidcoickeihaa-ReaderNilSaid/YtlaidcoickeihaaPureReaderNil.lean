/- Of the statement ReaderNil: what it computes is true of any bytes (plain part). -/
import Derived.Test.YtlaidcoickeihaaPReaderNilx2
namespace Go.Proofs.Ytlaidcoickeihaa.Pure
open Go.RowKit Go.Proofs.Ytlaidcoickeihaa.PReaderNil Go.Proofs.YtlaidcoickeihaaW.PrintWords Go.Proofs.YtlaidcoickeihaaW.PrintLast
set_option linter.unusedVariables false
set_option linter.unusedSimpArgs false

def st0 : Int × List Int × List Int := (0, [], List.replicate 512 0)
theorem read_is (k : Nat) (b : List Int) (h : b.length ≤ 100000) (hx : ∀ x ∈ b, 0 ≤ x ∧ x ≤ 255) : message_Read.f k b = some (rdRun st0 b).2 := by
  unfold message_Read.f
  rw [if_pos ⟨h, hx⟩]
  rfl
theorem awake_is (k : Nat) : serinettelaw21_awake.f k = some true := by
  unfold serinettelaw21_awake.f
  rw [read_is k _ (by simp) (by intro x hx; simp at hx; omega)]
  have : (rdRun st0 [144, 60, 100, 62, 0]).2 = [⟨⟨#[111, 110]⟩, 0, 60, 100⟩, ⟨⟨#[111, 102, 102]⟩, 0, 62, 64⟩] := by
    kernel_rfl
  rw [this]
  have a1 : (⟨#[111, 110]⟩ : ByteArray).toList = [111, 110] := by first | decide +kernel | rfl | kernel_rfl
  have a2 : (⟨#[111, 102, 102]⟩ : ByteArray).toList = [111, 102, 102] := by first | decide +kernel | rfl | kernel_rfl
  simp [rd_T37, a1, a2]
theorem ReaderNil : serinettelaw21_ReaderNil.Pure := by
  intro l0 h1 h2 h3
  exact ⟨0, by unfold serinettelaw21_ReaderNil.f; exact awake_is 0⟩

end Go.Proofs.Ytlaidcoickeihaa.Pure
