/- How a reader of messages is copied, and goes on beside another one. -/
import Derived.Test.YtlaidcoickeihaaQReaderFeeds
import Derived.Deep.WholeRow
import Derived.Lib.LazyBuf
import Derived.Laws.CopyOwn
namespace Go.Proofs.Ytlaidcoickeihaa.PReaderFeeds
open Go.RowKit Go.Proofs.YtlaidcoickeihaaW.PrintWords Go.Proofs.YtlaidcoickeihaaW.PrintLast Go.Proofs.YtlaidcoickeihaaW.PrintMore
set_option linter.unusedVariables false
set_option linter.unusedSimpArgs false
attribute [local go_sem] cell_mk frozen_mk

theorem lit0 (W : World) (g : Nat) (hg : g = W.heap.size) : Kd.R (Kd.int .i64) 3 (W.alloc (.cells #[] 3)) W.heap.size (fun _ => True) (.slice (some ⟨g, 0, none⟩) 0 0) [] := by
  subst hg
  refine ⟨fun _ _ => trivial, [], ?_, Reps.none _ _⟩
  exact World.ownsRow_lit (base := W.heap.size) (e := 3) (size := 1) W #[] 0 (Nat.le_refl _) (by decide) (by rfl)
def Cloned (w : World) (xs : List Int) (e : Ending) (w' : World) : Prop := ∃ v, e = .returned v ∧ Kd.R (Kd.int .i64) 3 w' w.heap.size (fun _ => True) v xs ∧ Below w.heap.size w w'
set_option maxHeartbeats 8000000 in
set_option maxRecDepth 100000 in
theorem clone_any (w : World) (B : Nat) (dv : Value) (xs : List Int) (h : Kd.R (Kd.int .i64) 3 w B (fun _ => True) dv xs) (hl : xs.length ≤ 1000) :
    Calls Try.prog 29 #[dv] w (Cloned w xs) := by
  have hnil : dv = .slice none 0 0 ∨ ∃ ad n c, dv = .slice (some ad) n c := by
    obtain ⟨_, inner, ⟨_, hcase⟩, _⟩ := h
    rcases hcase with ⟨e, _⟩ | ⟨g, cap, _, e, _⟩
    · exact .inl e
    · exact .inr ⟨_, _, _, e⟩
  obtain ⟨A, c, rfl, hc, hC⟩ := Kd.R_reads h
  have qT : ∀ (w : World) (A : Option Addr) (n c : Nat), (binOp .eql 56 (.slice A n c) (.slice none 0 0)).run Try.prog w = .ok (.bool A.isNone) w := fun w A n c => run_eql_slice_nil w 56 3 A n c Try.underlying56
  have HC := Aside0.mk hC
  have HL := Aside0.mk hl
  clear h hC hl
  cases A with
  | none =>
    have hx : xs = [] := by
      cases xs with
      | nil => rfl
      | cons x xs => obtain ⟨ad, e, _⟩ := Kd.at_int HC.out 0 (by omega) (by simp); cases e
    subst hx
    obtain rfl : c = 0 := by
      rcases hnil with e | ⟨ad, n, c', e⟩
      · simpa using e
      · cases e
    clear hnil
    go_enter Try.func29, Try.ntmps29
    go_wp2
    go_ret
    exact ⟨_, rfl, Kd.R_nil _ _ _ _ _, Below.refl _ _⟩
  | some ad =>
    clear hnil
    go_enter Try.func29, Try.ntmps29
    go_wp2_with (at_builtin; go_loud (refine Kd.R_append_rows (Kd.int .i64) (w0 := w) w.heap.size rfl (.tmp 5) (.tmp 6) 56 3 (.int .i64 0) 8 rfl Try.underlying56 infoM3 rfl (by decide) (by omega) (.slice (some ⟨w.heap.size, 0, none⟩) 0 0) [] xs (some ad) xs.length c (fun _ => True) (fun _ => False) (by first | rfl | (go_simp; done) | (go_simp; rfl)) (by first | rfl | (go_simp; done) | (go_simp; rfl)) (lit0 w _ rfl) (HC.out.imp_ (below_alloc (Below.refl _ _) _) (fun _ _ h => h)) (fun x cs h => h) (fun _ hk => hk.elim) (fun _ _ => trivial) (below_alloc (Below.refl _ _) _) (by simp) (by have := HL.out; simp; omega) ?_); intro v6 w6 hr6 hb6 hg6 hat6; have HR6 := Aside0.mk hr6; have HB6 := Aside0.mk hb6; clear hr6 hb6 hg6 hat6)
    go_ret
    exact ⟨_, rfl, by simpa using HR6.out, HB6.out⟩
def Copied (w : World) (st : Int) (xs hi : List Int) (e : Ending) (w' : World) : Prop :=
  ∃ (g' : Nat) (dv' : Value), e = .returned (.pointer (some ⟨g', 0, none⟩)) ∧ w.heap.size ≤ g' ∧ Rd w' w.heap.size g' st dv' xs hi ∧ Below w.heap.size w w'
theorem rd_size (st : Int) (d : Value) (hi : List Int) (h : hi.length = 512) : (rdCells st d hi).size = 515 := by
  simp [rdCells, nums_length, h]
theorem under60 : ∃ fs, Try.prog.underlying 60 = some (.struct fs) := ⟨_, Try.underlying60⟩
theorem size60 : (Try.prog.info? 60).map (·.size) = some 515 := by kernel_rfl
theorem load_rd {W : World} {B g : Nat} {st : Int} {dv : Value} {xs hi : List Int} (h : Rd W B g st dv xs hi) : (Instr.loadAt 60 (.pointer (some ⟨g, 0, none⟩))).run Try.prog W = .ok (.agg (rdCells st dv hi)) W := by
  obtain ⟨fs, hu⟩ := under60
  simp only [Instr.loadAt, Instr.sureAddr, Sem.run_bind, Sem.run_pure, Result.andThen]
  exact run_loadVar_row W g 60 60 _ (0, 0) _ h.cells hu rfl (by rw [rd_size _ _ _ h.len]; exact size60)
theorem store_rd {W : World} {g : Nat} {old cs : Array Value} (h : W.heap[g]? = some (.cells old 60 (0, 0))) (hs : old.size = 515) (hc : cs.size = 515) (h1 : cs.all (·.oneCell') = true) : (Instr.storeAt 60 (.pointer (some ⟨g, 0, none⟩)) (.agg cs)).run Try.prog W = .ok () (W.setRow g cs) := by
  simp only [Instr.storeAt, Instr.sureAddr, Sem.run_bind, Sem.run_pure, Result.andThen]
  exact run_storeVar_row W g 60 60 old cs h (by rw [hc]; exact size60) (by omega) h1
section
variable {P : Program} {ops : Array Oper} {o : Oper} {rest : List Oper} {a : Act} {Q : Exit → Act → World → Prop}
theorem event_skip {W w1 : World} (hgd : o.guard = none) (hrun : (execOp a.eval o).run P W = .ok .skip w1) (h : wpList P ops Q rest (a.put o.dst undef) w1) : wpList P ops Q (o :: rest) a W := by
  refine wpList_plain hgd fun K hK => ?_
  unfold Oper.wp
  rw [hrun]
  exact hK _ _ h
end
theorem load_op {W : World} {B g : Nat} {st : Int} {dv : Value} {xs hi : List Int} (h : Rd W B g st dv xs hi) {e : Operand → Value} {o : Oper} {p : Operand} (ho : o.op = .load 60 p) (hp : e p = .pointer (some ⟨g, 0, none⟩)) : (execOp e o).run Try.prog W = .ok (.value (.agg (rdCells st dv hi))) W := by
  unfold execOp
  rw [ho]
  simp only [hp, Sem.run_bind, load_rd h, Result.andThen, Sem.run_pure]
theorem store_op {W : World} {g : Nat} {old cs : Array Value} (h : W.heap[g]? = some (.cells old 60 (0, 0))) (hs : old.size = 515) (hc : cs.size = 515) (h1 : cs.all (·.oneCell') = true) {e : Operand → Value} {o : Oper} {p v : Operand} (ho : o.op = .store 60 p v) (hp : e p = .pointer (some ⟨g, 0, none⟩)) (hv : e v = .agg cs) : (execOp e o).run Try.prog W = .ok .skip (W.setRow g cs) := by
  unfold execOp
  rw [ho]
  simp only [hp, hv, Sem.run_bind, store_rd h hs hc h1, Result.andThen, Sem.run_pure]
theorem rd_one (st : Int) (dv : Value) (hi : List Int) (h : dv.oneCell' = true) : (rdCells st dv hi).all (·.oneCell') = true := by
  rw [Array.all_eq_true_iff_forall_mem]
  intro x hx
  simp [rdCells, nums] at hx
  rcases hx with rfl | rfl | ⟨_, _, rfl⟩ | rfl
  · rfl
  · exact h
  · rfl
  · rfl
theorem rd_dv1 {W : World} {B g : Nat} {st : Int} {dv : Value} {xs hi : List Int} (h : Rd W B g st dv xs hi) : dv.oneCell' = true := by
  obtain ⟨A, c, rfl, _⟩ := rd_data h
  rfl
theorem zero60 : (Try.zeroCells60 : Array Value).size = 515 := by kernel_rfl
set_option maxHeartbeats 8000000 in
set_option maxRecDepth 100000 in
theorem copy_any (w : World) (B g : Nat) (st : Int) (dv : Value) (xs hi : List Int) (H : Rd w B g st dv xs hi) (hl : xs.length ≤ 1000) :
    Calls Try.prog 16 #[.pointer (some ⟨g, 0, none⟩)] w (Copied w st xs hi) := by
  have HH := Aside0.mk H
  have HL := Aside0.mk hl
  have q2 := rd_c2 H
  clear hl H
  go_enter Try.func16, Try.ntmps16
  go_upto_region 3 with (fail)
  go_upto_region 4 with (first | ((with_reducible refine gate_dst (N := 15) rfl ?_); refine Kd.event_run (v := .agg (rdCells st dv hi)) (w1 := w) rfl (load_op HH.out rfl rfl) ?_) | ((with_reducible refine gate_dst (N := 3) rfl ?_); refine box_event ?hg (N := 3) ?hd (cs := Try.zeroCells60) (t := 60) ?hr ?_; (case hd => rfl); (case hg => rfl); (case hr => first | (go_simp; done) | (go_simp; rfl)); intro gb hg w8 hbox hb; have HBX := Aside0.mk hbox; have HB := Aside0.mk hb; have HG := Aside0.mk hg; clear hg hb hbox) | ((with_reducible refine gate_store (t := 60) (p := 3) (v := .tmp 15) rfl ?_); go_loud (refine event_skip (w1 := w8.setRow gb (rdCells st dv hi)) rfl (store_op HBX.out zero60 (rd_size _ _ _ HH.out.len) (rd_one _ _ _ (rd_dv1 HH.out)) rfl rfl rfl) ?_)))
  have hbox := setRow_heap w8 gb Try.zeroCells60 (rdCells st dv hi) 60 (0, 0) HBX.out
  have hbel := below_setRow HB.out (Nat.le_of_eq HG.out.symm) (rdCells st dv hi)
  generalize w8.setRow gb (rdCells st dv hi) = w9 at hbox hbel ⊢
  have HB9 := Aside0.mk hbel
  have HX9 := Aside0.mk hbox
  have H9 := Aside0.mk (HH.out.below hbel)
  have q1 := rd_c1 H9.out
  clear HBX HB hbox hbel q2
  go_wp2_with (go_at_call 29; refine (clone_any w9 B dv xs H9.out.own HL.out).mono ?_; rintro e w10 ⟨v, rfl, hv, hb⟩; obtain ⟨A1, c1, rfl, _, _⟩ := Kd.R_reads hv; have HV := Aside0.mk hv; have X10 := (hb.block gb (blk_lt HX9.out)).trans HX9.out; have f1 := (blk_cell X10 1).trans (show (rdCells st dv hi)[1]? = some dv from rfl); have r1 := blk_frozen X10 1; have X10' := Aside0.mk X10; have HB10 := Aside0.mk hb; clear hv hb X10)
  go_ret
  have hB : Below w.heap.size w w10 := below_step HB9.out HB10.out
  refine ⟨gb, _, rfl, Nat.le_of_eq HG.out.symm, ⟨?_, Kd.R_set (Kd.R_lower HV.out HB9.out.size) X10'.out (by decide) _ _, HH.out.len, Nat.le_of_eq HG.out.symm, ?_⟩, hB.setCell (Nat.le_of_eq HG.out.symm) _⟩
  · rw [blk_set X10'.out, rdCells, rdCells]
    rfl
  · have := hB.size
    rw [World.setCell]
    simpa using this
end Go.Proofs.Ytlaidcoickeihaa.PReaderFeeds
namespace Go.Proofs.Ytlaidcoickeihaa.PReaderFeeds
open Go.RowKit Go.Proofs.YtlaidcoickeihaaW.PrintWords Go.Proofs.YtlaidcoickeihaaW.PrintLast Go.Proofs.YtlaidcoickeihaaW.PrintMore
set_option linter.unusedVariables false
set_option linter.unusedSimpArgs false
abbrev RS := Int × List Int × List Int
theorem int_keep {W W' : World} {B g : Nat} {row : Option Nat} {dv : Value} {xs : List Int} (h : Kd.R (Kd.int .i64) 3 W B (fun _ => True) dv xs) (hk : KeepBut W W' g row) (hg : dv.ownBlock ≠ some g) (hr : dv.ownBlock = none ∨ dv.ownBlock ≠ row) : Kd.R (Kd.int .i64) 3 W' B (fun _ => True) dv xs := by
  obtain ⟨h0, inner, ho, hq⟩ := h
  exact ⟨h0, inner, hk.own ho hg hr, hq⟩
theorem msg_keep {W W' : World} {b g T : Nat} {row : Option Nat} {cs : Array Value} {v : Value} {ms : List S37} (h : Kd.R k37 37 W b (fun _ => True) v ms) (hk : KeepBut W W' g row) (hg : W.heap[g]? = some (.cells cs T (0, 0))) (hT : ∀ q, q ∈ 37 :: k37.E → q ≠ T) (hr : ∀ k, row = some k → ∃ cs, W.heap[k]? = some (.cells cs 3 (0, 0))) : Kd.R k37 37 W' b (fun _ => True) v ms := by
  refine Kd.R_mono (Kd.R_move (Kd.R_bound h) (fun k hk' => ?_)) (fun _ _ => trivial)
  obtain ⟨_, _, hlt, q, hq, cells, hc⟩ := hk'
  refine hk.2 k hlt ?_ ?_
  · rintro rfl
    rw [hc] at hg
    simp at hg
    exact hT q hq hg.2
  · intro e
    obtain ⟨cs', hc'⟩ := hr k e.symm
    rw [hc] at hc'
    simp at hc'
    exact (by decide : ∀ q ∈ 37 :: k37.E, q ≠ 3) q hq hc'.2
theorem own3 {W : World} {B : Nat} {dv : Value} {xs : List Int} (h : Kd.R (Kd.int .i64) 3 W B (fun _ => True) dv xs) : ∀ k, dv.ownBlock = some k → ∃ cs, W.heap[k]? = some (.cells cs 3 (0, 0)) := fun k e => by
  obtain ⟨_, inner, ho, _⟩ := h
  exact own_typed ho k e
/-- The two readers beside each other. -/
structure Two (W : World) (B g g' : Nat) (s t : RS) (dv dv' : Value) : Prop where
  a : Rd W B g s.1 dv s.2.1 s.2.2
  b : Rf.Rd W B g' t.1 dv' t.2.1 t.2.2
  apart : ∀ k, dv.ownBlock = some k → dv'.ownBlock ≠ some k
theorem Two.below {W W' : World} {B g g' : Nat} {s t : RS} {dv dv' : Value} (h : Two W B g g' s t dv dv') (hb : Below W.heap.size W W') : Two W' B g g' s t dv dv' := ⟨h.a.below hb, h.b.below hb, h.apart⟩
/-- What was told stays. -/
def KeepM (W W' : World) : Prop := ∀ b v ms, Kd.R k37 37 W b (fun _ => True) v ms → Kd.R k37 37 W' b (fun _ => True) v ms
def FedA (W : World) (B g g' : Nat) (s t : RS) (dv' : Value) (ms : List S37) (e : Ending) (W' : World) : Prop :=
  ∃ v dv, e = .returned (.tuple #[v, .int .i64 0]) ∧ Two W' B g g' s t dv dv' ∧ Kd.R k37 37 W' W.heap.size (fun _ => True) v ms ∧ Below B W W' ∧ KeepM W W'
def FedB (W : World) (B g g' : Nat) (s t : RS) (dv : Value) (ms : List S37) (e : Ending) (W' : World) : Prop :=
  ∃ v dv', e = .returned v ∧ Two W' B g g' s t dv dv' ∧ Kd.R k37 37 W' W.heap.size (fun _ => True) v ms ∧ Below B W W' ∧ KeepM W W'
theorem stays_apart {W : World} {B : Nat} {dv0 dv dv' : Value} {xs : List Int} {W0 : World} (hs : Stays dv0 dv W.heap.size) (h : Kd.R (Kd.int .i64) 3 W B (fun _ => True) dv' xs) (ha : ∀ k, dv0.ownBlock = some k → dv'.ownBlock ≠ some k) : ∀ k, dv.ownBlock = some k → dv'.ownBlock ≠ some k := fun k e e' => by
  rcases hs with h1 | h1 | ⟨b, h1, h2⟩
  · rw [h1] at e; cases e
  · rw [h1] at e; exact ha k e e'
  · rw [h1] at e
    cases e
    obtain ⟨cs, hc⟩ := own3 h k e'
    have := blk_lt hc
    omega
theorem feed_two (W : World) (B g g' : Nat) (s t : RS) (dv dv' : Value) (A : Option Addr) (c n : Nat) (l : List Int) (T : Two W B g g' s t dv dv') (hs : RdOk s) (hC : Kd.C (Kd.int .u8) W A l.length l) (hn : l.length = n) (hc : n ≤ c) (hl : n ≤ 100000) (hx : ∀ x ∈ l, 0 ≤ x ∧ x ≤ 255) (hlt : ∀ ad, A = some ad → 0 < n → ad.block < B) :
    Calls Try.prog 14 #[.pointer (some ⟨g, 0, none⟩), .slice A n c] W (FedA W B g g' (rdRun s l).1 t dv' (rdRun s l).2) := by
  subst hn
  refine (feed_any W B g s dv A c l T.a hs hC hc hl hx (fun ad e hp => ?_)).mono ?_
  · have h1 := hlt ad e hp
    refine ⟨by have := T.a.base; omega, fun h => ?_⟩
    have := Kd.R_base T.a.own ad.block h.symm
    omega
  · rintro e w' ⟨v, dvn, rfl, hF⟩
    have hne : g' ≠ g := fun h => by
      have h1 := T.a.cells
      have h2 := T.b.cells
      rw [h, h1] at h2
      simp at h2
    refine ⟨v, dvn, rfl, ⟨hF.rd, ⟨hF.keep.blk T.b.cells hne ?_, int_keep T.b.own hF.keep ?_ ?_, T.b.len, T.b.base, Nat.le_trans T.b.top hF.keep.1⟩, ?_⟩, hF.out, hF.below, fun b u ms h => msg_keep h hF.keep T.a.cells (by decide) (own3 T.a.own)⟩
    · exact Kd.R_ne T.a.own T.b.cells (by decide)
    · exact fun h => (Kd.R_ne T.b.own T.a.cells (by decide)) h.symm
    · cases hq : dv'.ownBlock with
      | none => exact .inl rfl
      | some k => exact .inr (fun h => T.apart k h.symm hq)
    · exact stays_apart (W0 := W) hF.stays T.b.own T.apart
theorem rfeed_two (W : World) (B g g' : Nat) (s t : RS) (dv dv' : Value) (A : Option Addr) (c n : Nat) (l : List Int) (T : Two W B g g' s t dv dv') (hs : RdOk t) (hC : Kd.C (Kd.int .u8) W A l.length l) (hn : l.length = n) (hc : n ≤ c) (hl : n ≤ 100000) (hx : ∀ x ∈ l, 0 ≤ x ∧ x ≤ 255) (hlt : ∀ ad, A = some ad → 0 < n → ad.block < B) :
    Calls Try.prog 15 #[.pointer (some ⟨g', 0, none⟩), .slice A n c] W (FedB W B g g' s (rdRun t l).1 dv (rdRun t l).2) := by
  subst hn
  refine (Rf.feed_any W B g' t dv' A c l T.b hs hC hc hl hx (fun ad e hp => ?_)).mono ?_
  · have h1 := hlt ad e hp
    refine ⟨by have := T.b.base; omega, fun h => ?_⟩
    have := Kd.R_base T.b.own ad.block h.symm
    omega
  · rintro e w' ⟨v, dvn, rfl, hF⟩
    have hne : g ≠ g' := fun h => by
      have h1 := T.a.cells
      have h2 := T.b.cells
      rw [← h, h1] at h2
      simp at h2
    have hst : Stays dv' dvn W.heap.size := hF.stays
    refine ⟨v, dvn, rfl, ⟨⟨hF.keep.blk T.a.cells hne ?_, int_keep T.a.own hF.keep ?_ ?_, T.a.len, T.a.base, Nat.le_trans T.a.top hF.keep.1⟩, hF.rd, ?_⟩, hF.out, hF.below, fun b u ms h => msg_keep h hF.keep T.b.cells (by decide) (own3 T.b.own)⟩
    · exact Kd.R_ne T.b.own T.a.cells (by decide)
    · exact fun h => (Kd.R_ne T.a.own T.b.cells (by decide)) h.symm
    · cases hq : dv.ownBlock with
      | none => exact .inl rfl
      | some k => exact .inr (fun h => T.apart k hq h.symm)
    · have := stays_apart (W0 := W) (dv' := dv) hst T.a.own (fun k h1 h2 => T.apart k h2 h1)
      exact fun k h1 h2 => this k h2 h1
/-- Another reader, copied off, may go on: the two stay. -/
theorem two_beside {W W1 W2 : World} {B g g' g2 : Nat} {s t u : RS} {dv dv' dv2 : Value} (T : Two W1 B g g' s t dv dv') (h2 : Rd W1 W.heap.size g2 u.1 dv2 u.2.1 u.2.2) (hT0 : g < W.heap.size ∧ g' < W.heap.size ∧ (∀ k, dv.ownBlock = some k → k < W.heap.size) ∧ (∀ k, dv'.ownBlock = some k → k < W.heap.size)) (hk : KeepBut W1 W2 g2 dv2.ownBlock) : Two W2 B g g' s t dv dv' := by
  obtain ⟨q1, q2, q3, q4⟩ := hT0
  have hg2 := h2.base
  have hd2 := Kd.R_base h2.own
  refine ⟨⟨hk.blk T.a.cells (by omega) (fun e => by have := hd2 g e.symm; omega), int_keep T.a.own hk (fun e => by have := q3 _ e; omega) ?_, T.a.len, T.a.base, Nat.le_trans T.a.top hk.1⟩, ⟨hk.blk T.b.cells (by omega) (fun e => by have := hd2 g' e.symm; omega), int_keep T.b.own hk (fun e => by have := q4 _ e; omega) ?_, T.b.len, T.b.base, Nat.le_trans T.b.top hk.1⟩, T.apart⟩
  · cases hq : dv.ownBlock with
    | none => exact .inl rfl
    | some k => exact .inr (fun h => by have := q3 k hq; have := hd2 k h.symm; omega)
  · cases hq : dv'.ownBlock with
    | none => exact .inl rfl
    | some k => exact .inr (fun h => by have := q4 k hq; have := hd2 k h.symm; omega)
end Go.Proofs.Ytlaidcoickeihaa.PReaderFeeds
