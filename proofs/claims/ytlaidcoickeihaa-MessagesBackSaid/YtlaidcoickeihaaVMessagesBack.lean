/- How the writer of messages walks: what its functions come to, byte for byte. -/
import Derived.Test.YtlaidcoickeihaaQMessagesBack
namespace Go.Proofs.Ytlaidcoickeihaa.PMessagesBack
open Go.RowKit Go.Proofs.YtlaidcoickeihaaW.PrintWords Go.Proofs.YtlaidcoickeihaaW.PrintLast Go.Proofs.YtlaidcoickeihaaW.PrintMore
set_option linter.unusedVariables false
set_option linter.unusedSimpArgs false
attribute [local go_sem] cell_mk frozen_mk

theorem infoM5 : (Try.prog.info? 5).map (fun i => (i.zero, i.size, i.bytes)) = some (some (.int .u8 0), 1, 1) := by kernel_rfl
/-- A writer in memory. -/
structure Wt (w : World) (B g : Nat) (bv : Value) (xs : List Int) (run : Bool) (last : Int) : Prop where
  cells : w.heap[g]? = some (.cells #[bv, .bool run, .int .i64 last] 69 (0, 0))
  own : Kd.R (Kd.int .u8) 5 w B (fun _ => True) bv xs
  base : B ≤ g
  top : B ≤ w.heap.size
theorem Wt.below {w w' : World} {B g : Nat} {bv : Value} {xs : List Int} {run : Bool} {last : Int} (h : Wt w B g bv xs run last) (hb : Below w.heap.size w w') : Wt w' B g bv xs run last :=
  ⟨(hb.block g (blk_lt h.cells)).trans h.cells, Kd.R_below h.own hb, h.base, Nat.le_trans h.top hb.size⟩
theorem Wt.setLast {w : World} {B g : Nat} {bv : Value} {xs : List Int} {run : Bool} {last : Int} (h : Wt w B g bv xs run last) (v : Int) : Wt (w.setCell ⟨g, 2, none⟩ (.int .i64 v)) B g bv xs run v := by
  refine ⟨?_, Kd.R_set h.own h.cells (by decide) _ _, h.base, by rw [World.setCell]; simpa using h.top⟩
  rw [blk_set h.cells]
  rfl
/-- Boxes of messages stay. -/
def Keep37 (w w' : World) : Prop := ∀ (gb : Nat) (cs : Array Value), w.heap[gb]? = some (.cells cs 37 (0, 0)) → w'.heap[gb]? = some (.cells cs 37 (0, 0))
theorem Keep37.trans {a b c : World} (h : Keep37 a b) (k : Keep37 b c) : Keep37 a c := fun g cs e => k g cs (h g cs e)
theorem Keep37.below {a b : World} (h : Below a.heap.size a b) : Keep37 a b := fun g cs e => (h.block g (blk_lt e)).trans e
theorem Wt.keep {w : World} {B g : Nat} {bv : Value} {xs : List Int} {run : Bool} {last : Int} (h : Wt w B g bv xs run last) (i : Nat) (u : Value) : Keep37 w (w.setCell ⟨g, i, none⟩ u) := fun gb cs e => blk_far e (blk_ne e h.cells (by decide)) _
theorem Wt.pushed {W w1 : World} {B g : Nat} {bv v1 : Value} {xs ys : List Int} {run : Bool} {last : Int} (h : Wt W B g bv xs run last) (hr : Kd.R (Kd.int .u8) 5 w1 B (fun _ => True) v1 ys) (hb : Below B W w1) (hg : W.grownBy w1 bv.ownBlock) :
    Wt (w1.setCell ⟨g, 0, none⟩ v1) B g v1 ys run last ∧ Below B W (w1.setCell ⟨g, 0, none⟩ v1) ∧ Keep37 W (w1.setCell ⟨g, 0, none⟩ v1) := by
  have hc : w1.heap[g]? = some (.cells #[bv, .bool run, .int .i64 last] 69 (0, 0)) := blk_grown h.cells hg (Kd.R_ne h.own h.cells (by decide))
  refine ⟨⟨?_, Kd.R_set hr hc (by decide) _ _, h.base, ?_⟩, hb.setCell h.base _, fun gb cs e => blk_far (blk_grown e hg (Kd.R_ne h.own e (by decide))) (blk_ne (blk_grown e hg (Kd.R_ne h.own e (by decide))) hc (by decide)) _⟩
  · rw [blk_set hc]
    rfl
  · have := hb.size
    have := h.top
    rw [World.setCell]
    simp
    omega
theorem Wt.cellsAt {W w1 : World} {B g : Nat} {bv : Value} {xs : List Int} {run : Bool} {last : Int} (h : Wt W B g bv xs run last) (hg : W.grownBy w1 bv.ownBlock) : w1.heap[g]? = some (.cells #[bv, .bool run, .int .i64 last] 69 (0, 0)) := blk_grown h.cells hg (Kd.R_ne h.own h.cells (by decide))
theorem wt_c0 {w : World} {B g : Nat} {bv : Value} {xs : List Int} {run : Bool} {last : Int} (h : Wt w B g bv xs run last) : w.cell? ⟨g, 0, none⟩ = some bv := by
  rw [blk_cell h.cells]; rfl
theorem wt_c1 {w : World} {B g : Nat} {bv : Value} {xs : List Int} {run : Bool} {last : Int} (h : Wt w B g bv xs run last) : w.cell? ⟨g, 1, none⟩ = some (.bool run) := by
  rw [blk_cell h.cells]; rfl
theorem wt_c2 {w : World} {B g : Nat} {bv : Value} {xs : List Int} {run : Bool} {last : Int} (h : Wt w B g bv xs run last) : w.cell? ⟨g, 2, none⟩ = some (.int .i64 last) := by
  rw [blk_cell h.cells]; rfl
theorem wt_fr {w : World} {B g : Nat} {bv : Value} {xs : List Int} {run : Bool} {last : Int} (h : Wt w B g bv xs run last) (i : Nat) : w.frozen? ⟨g, i, none⟩ = false := blk_frozen h.cells i
theorem lit2 (W : World) (g : Nat) (a b : Int) (hg : g = W.heap.size) : Kd.C (Kd.int .u8) (W.alloc (.cells #[.int .u8 a, .int .u8 b] 5)) (some ⟨g, 0, none⟩) 2 [a, b] := by
  have := Kd.R_reads (d := Kd.int .u8) (e := 5) (w := W.alloc (.cells #[.int .u8 a, .int .u8 b] 5)) (base := W.heap.size) (ok := fun _ => True) (v := .slice (some ⟨W.heap.size, 0, none⟩) 2 2) (xs := [a, b]) ?_
  · obtain ⟨A, c, e, _, h⟩ := this
    cases e
    subst hg
    exact h
  · refine ⟨fun _ _ => trivial, [.int .u8 a, .int .u8 b], ?_, ?_⟩
    · have h2 := World.ownsRow_lit (base := W.heap.size) (e := 5) (size := 1) W #[.int .u8 a, .int .u8 b] 2 (Nat.le_refl _) (by decide) (by rfl)
      exact h2
    · exact Reps.one rfl (Reps.one rfl (Reps.none _ _))
/-- What is written behind a status. -/
def putB (run : Bool) (last s a b : Int) : List Int := if run = true ∧ s = last then [a, b] else [s, a, b]
theorem u8_in {c : Int} (h0 : 0 ≤ c) (h1 : c ≤ 255) : IntKind.u8.wrap c = c := IntWalk.u8_in _ (by omega)
def PutPost (w : World) (B g : Nat) (xs : List Int) (run : Bool) (s : Int) (e : Ending) (w' : World) : Prop := e = .returned (.tuple #[]) ∧ ∃ bv', Wt w' B g bv' xs run s ∧ Below B w w' ∧ Keep37 w w'
set_option maxHeartbeats 8000000 in
set_option maxRecDepth 100000 in
theorem put_any (w : World) (B g : Nat) (bv : Value) (xs : List Int) (run : Bool) (last s a b : Int) (H : Wt w B g bv xs run last) (s0 : 0 ≤ s) (s1 : s ≤ 255) (a0 : 0 ≤ a) (a1 : a ≤ 255) (b0 : 0 ≤ b) (b1 : b ≤ 255) (hl : xs.length ≤ 100000) :
    Calls Try.prog 31 #[.pointer (some ⟨g, 0, none⟩), .int .i64 s, .int .i64 a, .int .i64 b] w (PutPost w B g (xs ++ putB run last s a b) run s) := by
  have HH := Aside0.mk H
  have HL := Aside0.mk hl
  have q0 := wt_c0 H
  have q1 := wt_c1 H
  have q2 := wt_c2 H
  have r0 := wt_fr H 0
  have r2 := wt_fr H 2
  have e1 := u8_in s0 s1
  have e2 := u8_in a0 a1
  have e3 := u8_in b0 b1
  by_cases hc : run = true ∧ s = last
  · have hp : putB run last s a b = [a, b] := by unfold putB; rw [if_pos hc]
    rw [hp]
    obtain ⟨rfl, rfl⟩ := hc
    have hsn : (s != s) = false := by simp
    clear H hl hp q2 hsn
    have hsn : (s != s) = false := by simp
    have q2 := wt_c2 HH.out
    go_enter Try.func31, Try.ntmps31
    go_wp2_with (at_builtin; have HW5 := Aside0.mk ((HH.out.setLast s).below (below_alloc (Below.refl _ _) (.cells #[.int .u8 a, .int .u8 b] 5))); (refine Kd.R_append_rows (Kd.int .u8) B rfl (.tmp 40) (.tmp 45) 22 5 (.int .u8 0) 1 rfl Try.underlying22 infoM5 rfl (by decide) (by omega) _ _ [a, b] (some ⟨w.heap.size, 0, none⟩) 2 2 (fun _ => True) (fun _ => False) rfl (by first | (go_simp; done) | (go_simp; rfl)) HW5.out.own (lit2 _ _ a b (by simp)) (fun x cs h => h) (fun _ hk => hk.elim) (fun _ _ => trivial) (Below.refl _ _) HW5.out.top (by have := HL.out; simp; omega) ?_); intro v6 w6 hr6 hb6 hg6 hat6; obtain ⟨A6, q6, hv6, _, _⟩ := Kd.R_reads hr6; simp at hv6; subst hv6; have HG6 := Aside0.mk (HW5.out.pushed hr6 hb6 hg6); have r6 := blk_frozen (HW5.out.cellsAt hg6) 0; have f6 := (blk_cell (HW5.out.cellsAt hg6) 0).trans (show (#[_, _, _] : Array Value)[0]? = some _ from rfl); clear hr6 hb6 hg6 hat6)
    refine bodyPost_end (v := .tuple #[]) (by simp [results, Try.results31, go_sem]) rfl ?_
    refine ⟨rfl, _, HG6.out.1, ?_⟩
    exact ⟨((Below.refl B w).setCell HH.out.base _).trans (((below_alloc (Below.refl _ _) _).mono (HH.out.setLast s).top).trans HG6.out.2.1), (HH.out.keep 2 _).trans ((Keep37.below (below_alloc (Below.refl _ _) _)).trans HG6.out.2.2)⟩
  · have hp : putB run last s a b = [s, a, b] := by unfold putB; rw [if_neg hc]
    rw [hp]
    have hd : run = false ∨ (run = true ∧ (s != last) = true) := by
      cases run
      · exact .inl rfl
      · refine .inr ⟨rfl, ?_⟩
        rw [bne_iff_ne]
        exact fun e => hc ⟨rfl, e⟩
    clear H hl hp hc
    rcases hd with rfl | ⟨rfl, hd⟩
    · go_enter Try.func31, Try.ntmps31
      go_wp2_with (first | (at_builtin; (refine Kd.R_append (Kd.int .u8) (w0 := w) B rfl (.tmp 25) (.tmp 28) 22 5 (.int .u8 0) 1 rfl Try.underlying22 infoM5 rfl (by decide) (by omega) bv xs s [.int .u8 s] (fun _ => True) (fun _ => False) rfl (by first | (go_simp; done) | (go_simp; rfl)) rfl (fun _ hk => hk.elim) (fun _ _ => trivial) HH.out.own (Below.refl _ _) HH.out.top (by have := HL.out; omega) ?_); intro v1 w1 hr1 hb1 hg1 hat1; obtain ⟨A1, q1, hv1, _, _⟩ := Kd.R_reads hr1; simp at hv1; subst hv1; have HG1 := Aside0.mk (HH.out.pushed hr1 hb1 hg1); have r1 := blk_frozen (HH.out.cellsAt hg1) 0; have f1 := (blk_cell (HH.out.cellsAt hg1) 0).trans (show (#[_, _, _] : Array Value)[0]? = some _ from rfl); have g1 := wt_c0 HG1.out.1; have g2 := wt_c2 HG1.out.1; have g3 := wt_fr HG1.out.1 2; clear hr1 hb1 hg1 hat1 q0 q2 r0 r2) | (at_builtin; have HW5 := Aside0.mk ((HG1.out.1.setLast s).below (below_alloc (Below.refl _ _) (.cells #[.int .u8 a, .int .u8 b] 5))); (refine Kd.R_append_rows (Kd.int .u8) B rfl (.tmp 40) (.tmp 45) 22 5 (.int .u8 0) 1 rfl Try.underlying22 infoM5 rfl (by decide) (by omega) _ _ [a, b] (some ⟨w1.heap.size, 0, none⟩) 2 2 (fun _ => True) (fun _ => False) rfl (by first | (go_simp; done) | (go_simp; rfl)) HW5.out.own (lit2 _ _ a b (by simp)) (fun x cs h => h) (fun _ hk => hk.elim) (fun _ _ => trivial) (Below.refl _ _) HW5.out.top (by have := HL.out; simp; omega) ?_); intro v6 w6 hr6 hb6 hg6 hat6; obtain ⟨A6, q6, hv6, _, _⟩ := Kd.R_reads hr6; simp at hv6; subst hv6; have HG6 := Aside0.mk (HW5.out.pushed hr6 hb6 hg6); have r6 := blk_frozen (HW5.out.cellsAt hg6) 0; have f6 := (blk_cell (HW5.out.cellsAt hg6) 0).trans (show (#[_, _, _] : Array Value)[0]? = some _ from rfl); clear hr6 hb6 hg6 hat6))
      refine bodyPost_end (v := .tuple #[]) (by simp [results, Try.results31, go_sem]) rfl ?_
      refine ⟨rfl, _, by simpa using HG6.out.1, ?_⟩
      exact ⟨HG1.out.2.1.trans (((Below.refl B _).setCell HH.out.base _).trans (((below_alloc (Below.refl _ _) _).mono (HG1.out.1.setLast s).top).trans HG6.out.2.1)), HG1.out.2.2.trans ((HG1.out.1.keep 2 _).trans ((Keep37.below (below_alloc (Below.refl _ _) _)).trans HG6.out.2.2))⟩
    · go_enter Try.func31, Try.ntmps31
      go_wp2_with (first | (at_builtin; (refine Kd.R_append (Kd.int .u8) (w0 := w) B rfl (.tmp 25) (.tmp 28) 22 5 (.int .u8 0) 1 rfl Try.underlying22 infoM5 rfl (by decide) (by omega) bv xs s [.int .u8 s] (fun _ => True) (fun _ => False) rfl (by first | (go_simp; done) | (go_simp; rfl)) rfl (fun _ hk => hk.elim) (fun _ _ => trivial) HH.out.own (Below.refl _ _) HH.out.top (by have := HL.out; omega) ?_); intro v1 w1 hr1 hb1 hg1 hat1; obtain ⟨A1, q1, hv1, _, _⟩ := Kd.R_reads hr1; simp at hv1; subst hv1; have HG1 := Aside0.mk (HH.out.pushed hr1 hb1 hg1); have r1 := blk_frozen (HH.out.cellsAt hg1) 0; have f1 := (blk_cell (HH.out.cellsAt hg1) 0).trans (show (#[_, _, _] : Array Value)[0]? = some _ from rfl); have g1 := wt_c0 HG1.out.1; have g2 := wt_c2 HG1.out.1; have g3 := wt_fr HG1.out.1 2; clear hr1 hb1 hg1 hat1 q0 q2 r0 r2) | (at_builtin; have HW5 := Aside0.mk ((HG1.out.1.setLast s).below (below_alloc (Below.refl _ _) (.cells #[.int .u8 a, .int .u8 b] 5))); (refine Kd.R_append_rows (Kd.int .u8) B rfl (.tmp 40) (.tmp 45) 22 5 (.int .u8 0) 1 rfl Try.underlying22 infoM5 rfl (by decide) (by omega) _ _ [a, b] (some ⟨w1.heap.size, 0, none⟩) 2 2 (fun _ => True) (fun _ => False) rfl (by first | (go_simp; done) | (go_simp; rfl)) HW5.out.own (lit2 _ _ a b (by simp)) (fun x cs h => h) (fun _ hk => hk.elim) (fun _ _ => trivial) (Below.refl _ _) HW5.out.top (by have := HL.out; simp; omega) ?_); intro v6 w6 hr6 hb6 hg6 hat6; obtain ⟨A6, q6, hv6, _, _⟩ := Kd.R_reads hr6; simp at hv6; subst hv6; have HG6 := Aside0.mk (HW5.out.pushed hr6 hb6 hg6); have r6 := blk_frozen (HW5.out.cellsAt hg6) 0; have f6 := (blk_cell (HW5.out.cellsAt hg6) 0).trans (show (#[_, _, _] : Array Value)[0]? = some _ from rfl); clear hr6 hb6 hg6 hat6))
      refine bodyPost_end (v := .tuple #[]) (by simp [results, Try.results31, go_sem]) rfl ?_
      refine ⟨rfl, _, by simpa using HG6.out.1, ?_⟩
      exact ⟨HG1.out.2.1.trans (((Below.refl B _).setCell HH.out.base _).trans (((below_alloc (Below.refl _ _) _).mono (HG1.out.1.setLast s).top).trans HG6.out.2.1)), HG1.out.2.2.trans ((HG1.out.1.keep 2 _).trans ((Keep37.below (below_alloc (Below.refl _ _) _)).trans HG6.out.2.2))⟩
end Go.Proofs.Ytlaidcoickeihaa.PMessagesBack
