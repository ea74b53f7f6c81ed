/- Of the statement ClocksAside: what it computes is true of any bytes (plain part). -/
import Derived.Test.YtlaidcoickeihaaPClocksAsidex2
namespace Go.Proofs.Ytlaidcoickeihaa.Pure
open Go.RowKit Go.Proofs.Ytlaidcoickeihaa.PClocksAside Go.Proofs.YtlaidcoickeihaaW.PrintWords Go.Proofs.YtlaidcoickeihaaW.PrintLast
set_option linter.unusedVariables false
set_option linter.unusedSimpArgs false

def st0 : Int × List Int × List Int := (0, [], List.replicate 512 0)
theorem read_is (k : Nat) (b : List Int) (h : b.length ≤ 100000) (hx : ∀ x ∈ b, 0 ≤ x ∧ x ≤ 255) : message_Read.f k b = some (rdRun st0 b).2 := by
  unfold message_Read.f
  rw [if_pos ⟨h, hx⟩]
  rfl
theorem awake_is (k : Nat) : serinettelaw21_awake.f k = some true := by
  unfold serinettelaw21_awake.f
  rw [read_is k _ (by simp) (by intro x hx; simp at hx; omega)]
  have : (rdRun st0 [144, 60, 100, 62, 0]).2 = [⟨⟨#[111, 110]⟩, 0, 60, 100⟩, ⟨⟨#[111, 102, 102]⟩, 0, 62, 64⟩] := by
    kernel_rfl
  rw [this]
  have a1 : (⟨#[111, 110]⟩ : ByteArray).toList = [111, 110] := by first | decide +kernel | rfl | kernel_rfl
  have a2 : (⟨#[111, 102, 102]⟩ : ByteArray).toList = [111, 102, 102] := by first | decide +kernel | rfl | kernel_rfl
  simp [rd_T37, a1, a2]
theorem same_refl (l : List S37) (hl : l.length ≤ 1000000) : Ev (fun k => serinettelaw21_same.f k l l) true := by
  have H : ∀ d (i : Nat), l.length - i = d → i ≤ l.length → Ev (fun k => serinettelaw21_same.l0 k l l (l.length : Int) (i : Int)) true := by
    intro d
    induction d with
    | zero =>
      intro i hd hi
      refine Ev.step (fun k => serinettelaw21_same.l0.eq_2 ..) ?_
      simp only [if_neg (show ¬ ((i : Int) < (l.length : Int)) by omega)]
      exact Ev.now true
    | succ d ih =>
      intro i hd hi
      refine Ev.step (fun k => serinettelaw21_same.l0.eq_2 ..) ?_
      simp only [if_pos (show (i : Int) < (l.length : Int) by omega), if_pos (show 0 ≤ (i : Int) by omega), beq_self_eq_true, Bool.not_true, Bool.or_false, Bool.false_eq_true, if_false]
      have := ih (i + 1) (by omega) (by omega)
      rwa [show ((i + 1 : Nat) : Int) = wrap64 ((i : Int) + 1) by unfold wrap64; omega] at this
  unfold serinettelaw21_same.f
  simp only [if_true]
  exact H _ 0 rfl (Nat.zero_le _)
/-- A clock changes nothing. -/
theorem run_clock (p : (Int × List Int × List Int) × List S37) (c : Int) (h : 248 ≤ c) : ((rdStep p.1 c).1, p.2 ++ (rdStep p.1 c).2) = p := by
  unfold rdStep
  rw [if_pos h]
  simp
theorem run_snoc (b : List Int) (c : Int) (h : 248 ≤ c) : rdRun st0 (b ++ [c]) = rdRun st0 b := by
  rw [rdRun_snoc]
  exact run_clock _ c h
theorem u8_of {x : Int} (h : (Lit.int .u8 x).wf = true) : 0 ≤ x ∧ x ≤ 255 := by
  have h' : IntKind.u8.min ≤ x ∧ x ≤ IntKind.u8.max := by simpa [Lit.wf] using h
  have e1 : IntKind.u8.min = 0 := by decide
  have e2 : IntKind.u8.max = 255 := by decide
  omega
theorem loop (l0 l1 : List Int) (hl : l0.length ≤ 1000) (hx0 : ∀ x ∈ l0, 0 ≤ x ∧ x ≤ 255) (hx1 : ∀ x ∈ l1, 0 ≤ x ∧ x ≤ 255) : ∀ d (i : Nat) (x5 : List Int), l0.length - i = d → i ≤ l0.length → x5.length ≤ 2 * i → (∀ x ∈ x5, 0 ≤ x ∧ x ≤ 255) → rdRun st0 x5 = rdRun st0 (l0.take i) →
    Ev (fun k => serinettelaw21_ClocksAside.l0 k l0 l1 x5 l0 (l0.length : Int) (i : Int)) true := by
  intro d
  induction d with
  | zero =>
    intro i x5 hd hi h5 hx5 hr
    refine Ev.step (fun k => serinettelaw21_ClocksAside.l0.eq_2 ..) ?_
    simp only [if_neg (show ¬ ((i : Int) < (l0.length : Int)) by omega)]
    rw [List.take_of_length_le (by omega)] at hr
    have hR := same_refl (rdRun st0 l0).2 (by have := rdRun_len st0 l0; omega)
    refine Ev.congr (f := fun k => (serinettelaw21_same.f k (rdRun st0 l0).2 (rdRun st0 l0).2).bind fun t => if t = true then some true else some false) (fun k => ?_) (Ev.bind (f := fun _ t => if t = true then some true else some false) hR ⟨0, fun _ _ => rfl⟩)
    rw [read_is k x5 (by omega) hx5, read_is k l0 (by omega) hx0, hr, awake_is]
    rfl
  | succ d ih =>
    intro i x5 hd hi h5 hx5 hr
    have hlt : i < l0.length := by omega
    refine Ev.step (fun k => serinettelaw21_ClocksAside.l0.eq_2 ..) ?_
    simp only [if_pos (show (i : Int) < (l0.length : Int) by omega), if_pos (show 0 ≤ (i : Int) by omega)]
    have hw : wrap64 ((i : Int) + 1) = ((i + 1 : Nat) : Int) := by unfold wrap64; omega
    have hrd : rd l0 (i : Int) = l0[i] := by simp [rd, hlt]
    have hc := hx0 l0[i] (List.getElem_mem hlt)
    have ht : l0.take (i + 1) = l0.take i ++ [l0[i]] := by rw [List.take_add_one, List.getElem?_eq_getElem hlt]; rfl
    have plainWay : ∀ y : List Int, y.length ≤ 2 * i + 1 → (∀ x ∈ y, 0 ≤ x ∧ x ≤ 255) → rdRun st0 y = rdRun st0 (l0.take i) → Ev (fun k => serinettelaw21_ClocksAside.l0 k l0 l1 (y ++ [rd l0 (i : Int)]) l0 (l0.length : Int) (wrap64 ((i : Int) + 1))) true := by
      intro y hy hxy hry
      rw [hw, hrd]
      refine ih (i + 1) _ (by omega) (by omega) (by simp; omega) ?_ (by rw [ht, rdRun_snoc, rdRun_snoc, hry])
      intro x hx
      rcases List.mem_append.1 hx with h | h
      · exact hxy x h
      · simp at h; rw [h]; exact hc
    by_cases c1 : (i : Int) < (l1.length : Int)
    · simp only [if_pos c1]
      by_cases c2 : Int.tmod (rd l1 (i : Int)) 3 = 0
      · simp only [if_pos c2, if_pos (show x5.length < 140737488355328 by omega), Option.bind_some, if_pos (show (x5 ++ [248 + (Int.tdiv (rd l1 (i : Int)) 3) % 8]).length < 140737488355328 by simp; omega)]
        refine plainWay _ (by simp; omega) ?_ (by rw [run_snoc _ _ (by omega)]; exact hr)
        intro x hx
        rcases List.mem_append.1 hx with h | h
        · exact hx5 x h
        · simp at h; omega
      · simp only [if_neg c2, if_pos (show x5.length < 140737488355328 by omega)]
        exact plainWay x5 (by omega) hx5 hr
    · simp only [if_neg c1, if_pos (show x5.length < 140737488355328 by omega)]
      exact plainWay x5 (by omega) hx5 hr
theorem ClocksAside : serinettelaw21_ClocksAside.Pure := by
  intro l0 l1 h1 h2 h3 h4 h5 h6
  by_cases hl : (l0.length : Int) > 1000
  · refine ⟨0, ?_⟩
    unfold serinettelaw21_ClocksAside.f
    rw [if_pos hl, awake_is]
    rfl
  · refine Ev.rounds (g := fun k => serinettelaw21_ClocksAside.f k l0 l1) ?_
    unfold serinettelaw21_ClocksAside.f
    simp only [if_neg hl]
    exact loop l0 l1 (by omega) (fun x hx => u8_of (h3 x hx)) (fun x hx => u8_of (h6 x hx)) _ 0 [] rfl (Nat.zero_le _) (Nat.zero_le _) (by simp) rfl

end Go.Proofs.Ytlaidcoickeihaa.Pure
