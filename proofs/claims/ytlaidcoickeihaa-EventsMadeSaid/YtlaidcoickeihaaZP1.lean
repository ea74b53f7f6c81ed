/- Parts of the proof of EventsMade, joined by program out of this session's own texts. -/
import Derived.Test.YtlaidcoickeihaaZP0
set_option linter.unusedVariables false
set_option linter.unusedSimpArgs false
namespace Go.Proofs.Ytlaidcoickeihaa.SEventsMade
open Go.RowKit Go.Proofs.Ytlaidcoickeihaa.Wd.PrintWords Go.Proofs.Ytlaidcoickeihaa.Wd.PrintLast Go.Proofs.Ytlaidcoickeihaa.Wd.PrintMore
def rdCells (st : Int) (d : Value) (hi : List Int) : Array Value := (.int .i64 st :: d :: (nums .i64 hi ++ [.bool true])).toArray
structure Rd (w : World) (B g : Nat) (st : Int) (dv : Value) (xs hi : List Int) : Prop where
  cells : w.heap[g]? = some (.cells (rdCells st dv hi) 60 (0, 0))
  own : Kd.R (Kd.int .i64) 3 w B (fun _ => True) dv xs
  len : hi.length = 512
  base : B ≤ g
  top : B ≤ w.heap.size
theorem rd_c0 {w : World} {B g : Nat} {st : Int} {dv : Value} {xs hi : List Int} (h : Rd w B g st dv xs hi) : w.cell? ⟨g, 0, none⟩ = some (.int .i64 st) := by
  rw [blk_cell h.cells]; rfl
theorem rd_c1 {w : World} {B g : Nat} {st : Int} {dv : Value} {xs hi : List Int} (h : Rd w B g st dv xs hi) : w.cell? ⟨g, 1, none⟩ = some dv := by
  rw [blk_cell h.cells]; rfl
theorem rd_c2 {w : World} {B g : Nat} {st : Int} {dv : Value} {xs hi : List Int} (h : Rd w B g st dv xs hi) : w.cell? ⟨g, 514, none⟩ = some (.bool true) := by
  rw [blk_cell h.cells, rdCells]
  simp [nums_length, h.len]
theorem rd_hi {w : World} {B g : Nat} {st : Int} {dv : Value} {xs hi : List Int} (h : Rd w B g st dv xs hi) (i : Nat) (hi' : i < 512) : w.cell? ⟨g, 2 + i, none⟩ = some (.int .i64 (hi.getD i 0)) := by
  rw [blk_cell h.cells, rdCells]
  rw [show 2 + i = i + 2 from by omega]
  simp only [List.getElem?_toArray, List.getElem?_cons_succ]
  rw [List.getElem?_append_left (by rw [nums_length, h.len]; exact hi')]
  simp [nums, List.getD_eq_getElem?_getD, List.getElem?_eq_getElem (show i < hi.length by rw [h.len]; exact hi')]
theorem rd_fr {w : World} {B g : Nat} {st : Int} {dv : Value} {xs hi : List Int} (h : Rd w B g st dv xs hi) (i : Nat) : w.frozen? ⟨g, i, none⟩ = false := blk_frozen h.cells i
theorem infoM37 : (Try.prog.info? 37).map (fun i => (i.zero, i.size, i.bytes)) = some (some (.agg #[(.string ⟨#[]⟩), (.int .i64 0), (.int .i64 0), (.int .i64 0)]), 4, 40) := by kernel_rfl
theorem cell_mk (w : World) (t) (d) (os) (out) (a : Addr) : World.cell? ⟨w.heap, t, d, os, out⟩ a = w.cell? a := rfl
theorem frozen_mk (w : World) (t) (d) (os) (out) (a : Addr) : World.frozen? ⟨w.heap, t, d, os, out⟩ a = w.frozen? a := rfl
attribute [local go_sem] cell_mk frozen_mk
theorem reps1 {w : World} {B : Nat} {ok : Nat → Prop} {p : S37} {c : List Value} (h : k37.M w B ok p c) : Reps (k37.M w B ok) k37.sz [p] c := by
  have := Reps.snoc (Reps.none (k37.M w B ok) k37.sz) h (k37.K_len (k37.K_of_M h))
  simpa using this
set_option maxHeartbeats 8000000 in
set_option maxRecDepth 100000 in
theorem complete_off (w : World) (g : Nat) (st a b : Int) (gd o cap : Nat) (h0 : 0 ≤ st) (h1 : st ≤ 255) (hk : st / 16 = 8)  (hbt : bits BinOp.and IntKind.i64 st 15 = st % 16)
    (hc0 : w.cell? ⟨g, 0, none⟩ = some (.int .i64 st)) (hc1 : w.cell? ⟨g, 1, none⟩ = some (.slice (some ⟨gd, o, none⟩) 2 cap))
    (ha : w.cell? ⟨gd, o, none⟩ = some (.int .i64 a)) (hb : w.cell? ⟨gd, o + 1, none⟩ = some (.int .i64 b)) :
    Calls Try.prog 26 #[.pointer (some ⟨g, 0, none⟩)] w fun e w' => ∃ v0_ : Value, e = .returned v0_ ∧ Kd.R k37 37 w' w.heap.size (fun _ => True) v0_ [⟨⟨#[111, 102, 102]⟩, st % 16, a, b⟩] ∧ Below w.heap.size w w' := by
  go_enter Try.func26, Try.ntmps26
  go_wp2
  go_quiet (fail)
  go_wp2
  go_still_tail 8, (by kernel_rfl)
  change wpList _ _ _ _ _ (w.drewN nq).drew
  have HB := Aside0.mk (below_drew (pw_below_drewN (Below.refl w.heap.size w) nq))
  have HS := Aside0.mk (show w.heap.size ≤ (w.drewN nq).drew.heap.size from Nat.le_refl _)
  generalize (w.drewN nq).drew = w2 at HB HS ⊢
  go_wp2_with ((with_reducible refine gate_dst (N := 30) rfl ?_); refine Kd.R_lit k37 w.heap.size 37 ?hg (N := 30) ?hd (xs := ([⟨⟨#[111, 102, 102]⟩, st % 16, a, b⟩] : List S37)) (inner := [.string ⟨#[111, 102, 102]⟩, .int .i64 (st % 16), .int .i64 (a), .int .i64 (b)]) (ok := fun _ => True) (okp := fun _ => True) ?hr ?hp (fun _ hk => hk) trivial HB.out HS.out (by simp) ?_; (case hd => rfl); (case hg => rfl); (case hr => first | (go_simp; done) | (go_simp; rfl)); (case hp => exact reps1 (k37_mkM _ _ _ ⟨_, _, _, _⟩)); intro v135 w5 ho6 hb hg_ hnew_; have HN := Aside0.mk hg_.size; clear hg_ hnew_; have HO := Aside0.mk ho6; clear HB; have HB := Aside0.mk hb; clear hb ho6)
  go_ret
  exact ⟨_, rfl, HO.out, HB.out⟩
set_option maxHeartbeats 8000000 in
set_option maxRecDepth 100000 in
theorem complete_on0 (w : World) (g : Nat) (st a b : Int) (gd o cap : Nat) (h0 : 0 ≤ st) (h1 : st ≤ 255) (hk : st / 16 = 9) (hb0 : b = 0) (hbt : bits BinOp.and IntKind.i64 st 15 = st % 16)
    (hc0 : w.cell? ⟨g, 0, none⟩ = some (.int .i64 st)) (hc1 : w.cell? ⟨g, 1, none⟩ = some (.slice (some ⟨gd, o, none⟩) 2 cap))
    (ha : w.cell? ⟨gd, o, none⟩ = some (.int .i64 a)) (hb : w.cell? ⟨gd, o + 1, none⟩ = some (.int .i64 b)) :
    Calls Try.prog 26 #[.pointer (some ⟨g, 0, none⟩)] w fun e w' => ∃ v0_ : Value, e = .returned v0_ ∧ Kd.R k37 37 w' w.heap.size (fun _ => True) v0_ [⟨⟨#[111, 102, 102]⟩, st % 16, a, 64⟩] ∧ Below w.heap.size w w' := by
  go_enter Try.func26, Try.ntmps26
  go_wp2
  go_quiet (fail)
  subst hb0
  have HB := Aside0.mk (pw_below_drewN (Below.refl w.heap.size w) nq)
  have HS := Aside0.mk (show w.heap.size ≤ (w.drewN nq).heap.size from Nat.le_refl _)
  go_wp2_with ((with_reducible refine gate_dst (N := 42) rfl ?_); refine Kd.R_lit k37 w.heap.size 37 ?hg (N := 42) ?hd (xs := ([⟨⟨#[111, 102, 102]⟩, st % 16, a, 64⟩] : List S37)) (inner := [.string ⟨#[111, 102, 102]⟩, .int .i64 (st % 16), .int .i64 (a), .int .i64 (64)]) (ok := fun _ => True) (okp := fun _ => True) ?hr ?hp (fun _ hk => hk) trivial HB.out HS.out (by simp) ?_; (case hd => rfl); (case hg => rfl); (case hr => first | (go_simp; done) | (go_simp; rfl)); (case hp => exact reps1 (k37_mkM _ _ _ ⟨_, _, _, _⟩)); intro v135 w5 ho6 hb hg_ hnew_; have HN := Aside0.mk hg_.size; clear hg_ hnew_; have HO := Aside0.mk ho6; clear HB; have HB := Aside0.mk hb; clear hb ho6)
  go_ret
  exact ⟨_, rfl, HO.out, HB.out⟩
set_option maxHeartbeats 8000000 in
set_option maxRecDepth 100000 in
theorem complete_on (w : World) (g : Nat) (st a b : Int) (gd o cap : Nat) (h0 : 0 ≤ st) (h1 : st ≤ 255) (hk : st / 16 = 9) (hb0 : (b == 0) = false) (hbt : bits BinOp.and IntKind.i64 st 15 = st % 16)
    (hc0 : w.cell? ⟨g, 0, none⟩ = some (.int .i64 st)) (hc1 : w.cell? ⟨g, 1, none⟩ = some (.slice (some ⟨gd, o, none⟩) 2 cap))
    (ha : w.cell? ⟨gd, o, none⟩ = some (.int .i64 a)) (hb : w.cell? ⟨gd, o + 1, none⟩ = some (.int .i64 b)) :
    Calls Try.prog 26 #[.pointer (some ⟨g, 0, none⟩)] w fun e w' => ∃ v0_ : Value, e = .returned v0_ ∧ Kd.R k37 37 w' w.heap.size (fun _ => True) v0_ [⟨⟨#[111, 110]⟩, st % 16, a, b⟩] ∧ Below w.heap.size w w' := by
  go_enter Try.func26, Try.ntmps26
  go_wp2
  go_quiet (fail)
  go_wp2
  go_still_tail 8, (by kernel_rfl)
  change wpList _ _ _ _ _ (w.drewN nq).drew
  have HB := Aside0.mk (below_drew (pw_below_drewN (Below.refl w.heap.size w) nq))
  have HS := Aside0.mk (show w.heap.size ≤ (w.drewN nq).drew.heap.size from Nat.le_refl _)
  generalize (w.drewN nq).drew = w2 at HB HS ⊢
  go_wp2_with ((with_reducible refine gate_dst (N := 51) rfl ?_); refine Kd.R_lit k37 w.heap.size 37 ?hg (N := 51) ?hd (xs := ([⟨⟨#[111, 110]⟩, st % 16, a, b⟩] : List S37)) (inner := [.string ⟨#[111, 110]⟩, .int .i64 (st % 16), .int .i64 (a), .int .i64 (b)]) (ok := fun _ => True) (okp := fun _ => True) ?hr ?hp (fun _ hk => hk) trivial HB.out HS.out (by simp) ?_; (case hd => rfl); (case hg => rfl); (case hr => first | (go_simp; done) | (go_simp; rfl)); (case hp => exact reps1 (k37_mkM _ _ _ ⟨_, _, _, _⟩)); intro v135 w5 ho6 hb hg_ hnew_; have HN := Aside0.mk hg_.size; clear hg_ hnew_; have HO := Aside0.mk ho6; clear HB; have HB := Aside0.mk hb; clear hb ho6)
  go_ret
  exact ⟨_, rfl, HO.out, HB.out⟩
set_option maxHeartbeats 8000000 in
set_option maxRecDepth 100000 in
theorem complete_bend (w : World) (g : Nat) (st a b : Int) (gd o cap : Nat) (h0 : 0 ≤ st) (h1 : st ≤ 255) (hk : st / 16 = 14)  (hbt : bits BinOp.and IntKind.i64 st 15 = st % 16)
    (hc0 : w.cell? ⟨g, 0, none⟩ = some (.int .i64 st)) (hc1 : w.cell? ⟨g, 1, none⟩ = some (.slice (some ⟨gd, o, none⟩) 2 cap))
    (ha : w.cell? ⟨gd, o, none⟩ = some (.int .i64 a)) (hb : w.cell? ⟨gd, o + 1, none⟩ = some (.int .i64 b)) :
    Calls Try.prog 26 #[.pointer (some ⟨g, 0, none⟩)] w fun e w' => ∃ v0_ : Value, e = .returned v0_ ∧ Kd.R k37 37 w' w.heap.size (fun _ => True) v0_ [⟨⟨#[98, 101, 110, 100]⟩, st % 16, 0, IntKind.i64.wrap (a + IntKind.i64.wrap (128 * b))⟩] ∧ Below w.heap.size w w' := by
  go_enter Try.func26, Try.ntmps26
  go_wp2
  go_quiet (fail)
  go_wp2
  go_still_tail 10, (by kernel_rfl)
  change wpList _ _ _ _ _ (w.drewN nq).drew
  have HB := Aside0.mk (below_drew (pw_below_drewN (Below.refl w.heap.size w) nq))
  have HS := Aside0.mk (show w.heap.size ≤ (w.drewN nq).drew.heap.size from Nat.le_refl _)
  generalize (w.drewN nq).drew = w2 at HB HS ⊢
  go_wp2_with ((with_reducible refine gate_dst (N := 123) rfl ?_); refine Kd.R_lit k37 w.heap.size 37 ?hg (N := 123) ?hd (xs := ([⟨⟨#[98, 101, 110, 100]⟩, st % 16, 0, IntKind.i64.wrap (a + IntKind.i64.wrap (128 * b))⟩] : List S37)) (inner := [.string ⟨#[98, 101, 110, 100]⟩, .int .i64 (st % 16), .int .i64 (0), .int .i64 (IntKind.i64.wrap (a + IntKind.i64.wrap (128 * b)))]) (ok := fun _ => True) (okp := fun _ => True) ?hr ?hp (fun _ hk => hk) trivial HB.out HS.out (by simp) ?_; (case hd => rfl); (case hg => rfl); (case hr => first | (go_simp; done) | (go_simp; rfl)); (case hp => exact reps1 (k37_mkM _ _ _ ⟨_, _, _, _⟩)); intro v135 w5 ho6 hb hg_ hnew_; have HN := Aside0.mk hg_.size; clear hg_ hnew_; have HO := Aside0.mk ho6; clear HB; have HB := Aside0.mk hb; clear hb ho6)
  go_ret
  exact ⟨_, rfl, HO.out, HB.out⟩
set_option maxHeartbeats 8000000 in
set_option maxRecDepth 100000 in
theorem complete_none (w : World) (g : Nat) (st : Int) (d : Value) (h0 : 0 ≤ st) (h1 : st ≤ 255) (h8 : (st / 16 == 8) = false) (h9 : (st / 16 == 9) = false) (h11 : (st / 16 == 11) = false) (h14 : (st / 16 == 14) = false)
    (hc0 : w.cell? ⟨g, 0, none⟩ = some (.int .i64 st)) (hc1 : w.cell? ⟨g, 1, none⟩ = some d) :
    Calls Try.prog 26 #[.pointer (some ⟨g, 0, none⟩)] w fun e w' => e = .returned (.slice none 0 0) ∧ Below w.heap.size w w' := by
  go_enter Try.func26, Try.ntmps26
  go_wp2
  go_quiet (fail)
  have HB := Aside0.mk (pw_below_drewN (Below.refl w.heap.size w) nq)
  go_wp2
  go_ret
  exact ⟨rfl, HB.out⟩
set_option maxHeartbeats 8000000 in
set_option maxRecDepth 100000 in
theorem complete_c64 (w : World) (g : Nat) (st a b : Int) (gd o cap : Nat) (h0 : 0 ≤ st) (h1 : st ≤ 255) (hk : st / 16 = 11) (ha1 : decide (a < 32) = false) (ha2 : decide (a < 64) = false) (hbt : bits BinOp.and IntKind.i64 st 15 = st % 16)
    (hc0 : w.cell? ⟨g, 0, none⟩ = some (.int .i64 st)) (hc1 : w.cell? ⟨g, 1, none⟩ = some (.slice (some ⟨gd, o, none⟩) 2 cap))
    (ha : w.cell? ⟨gd, o, none⟩ = some (.int .i64 a)) (hb : w.cell? ⟨gd, o + 1, none⟩ = some (.int .i64 b)) :
    Calls Try.prog 26 #[.pointer (some ⟨g, 0, none⟩)] w fun e w' => ∃ v0_ : Value, e = .returned v0_ ∧ Kd.R k37 37 w' w.heap.size (fun _ => True) v0_ [⟨⟨#[99, 111, 110, 116, 114, 111, 108]⟩, st % 16, a, b⟩] ∧ Below w.heap.size w w' := by
  go_enter Try.func26, Try.ntmps26
  go_wp2
  go_quiet (fail)
  go_wp2
  go_still_tail 8, (by kernel_rfl)
  change wpList _ _ _ _ _ (w.drewN nq).drew
  have ha' : (w.drewN nq).drew.cell? ⟨gd, o, none⟩ = some (.int .i64 a) := ha
  have HD := Aside0.mk (World.block_lt_of_cell? w _ ha)
  have HB := Aside0.mk (below_drew (pw_below_drewN (Below.refl w.heap.size w) nq))
  have HS := Aside0.mk (show w.heap.size ≤ (w.drewN nq).drew.heap.size from Nat.le_refl _)
  generalize (w.drewN nq).drew = w2 at HB HS ha' ⊢
  go_wp2_with (((with_reducible refine gate_dst (N := 62) rfl ?_); refine Kd.R_lit k37 w.heap.size 37 ?hg (N := 62) ?hd (xs := ([⟨⟨#[99, 111, 110, 116, 114, 111, 108]⟩, st % 16, a, b⟩] : List S37)) (inner := [.string ⟨#[99, 111, 110, 116, 114, 111, 108]⟩, .int .i64 (st % 16), .int .i64 (a), .int .i64 (b)]) (ok := fun _ => True) (okp := fun _ => True) ?hr ?hp (fun _ hk => hk) trivial HB.out HS.out (by simp) ?_; (case hd => rfl); (case hg => rfl); (case hr => first | (go_simp; done) | (go_simp; rfl)); (case hp => exact reps1 (k37_mkM _ _ _ ⟨_, _, _, _⟩)); intro v135 w5 ho6 hb hg_ hnew_; have HN := Aside0.mk hg_.size; clear hg_ hnew_; have HO := Aside0.mk ho6; clear HB; have HB := Aside0.mk hb; clear hb ho6); have ha5 := (HB.out.cell HD.out).trans ha)
  go_ret
  exact ⟨_, rfl, HO.out, HB.out⟩
set_option maxHeartbeats 8000000 in
set_option maxRecDepth 100000 in
theorem complete_c32 (w : World) (g : Nat) (st a b v : Int) (gd o cap : Nat) (h0 : 0 ≤ st) (h1 : st ≤ 255) (hk : st / 16 = 11) (ha0 : 0 ≤ a) (ha1 : decide (a < 32) = true) (ha2 : a < 32) (hbt : bits BinOp.and IntKind.i64 st 15 = st % 16)
    (hs0 : 0 ≤ st % 16) (hs1 : st % 16 < 16)
    (hc0 : w.cell? ⟨g, 0, none⟩ = some (.int .i64 st)) (hc1 : w.cell? ⟨g, 1, none⟩ = some (.slice (some ⟨gd, o, none⟩) 2 cap))
    (hch : w.cell? ⟨g, 2 + (st % 16).toNat * 32 + a.toNat, none⟩ = some (.int .i64 v))
    (hfh : w.frozen? ⟨g, 2 + (st % 16).toNat * 32 + a.toNat, none⟩ = false)
    (ha : w.cell? ⟨gd, o, none⟩ = some (.int .i64 a)) (hb : w.cell? ⟨gd, o + 1, none⟩ = some (.int .i64 b)) :
    Calls Try.prog 26 #[.pointer (some ⟨g, 0, none⟩)] w fun e w' => ∃ v0_ : Value, e = .returned v0_ ∧ ∃ W, Kd.R k37 37 W w.heap.size (fun _ => True) v0_ [⟨⟨#[99, 111, 110, 116, 114, 111, 108]⟩, st % 16, a, b⟩] ∧ Below w.heap.size w W ∧ w' = W.setCell ⟨g, 2 + (st % 16).toNat * 32 + a.toNat, none⟩ (.int .i64 b) := by
  go_enter Try.func26, Try.ntmps26
  go_wp2
  go_quiet (fail)
  go_wp2
  go_still_tail 8, (by kernel_rfl)
  change wpList _ _ _ _ _ (w.drewN nq).drew
  have HD := Aside0.mk (World.block_lt_of_cell? w _ ha)
  have HDg := Aside0.mk (World.block_lt_of_cell? w _ hch)
  have HB := Aside0.mk (below_drew (pw_below_drewN (Below.refl w.heap.size w) nq))
  have HS := Aside0.mk (show w.heap.size ≤ (w.drewN nq).drew.heap.size from Nat.le_refl _)
  generalize (w.drewN nq).drew = w2 at HB HS ⊢
  go_wp2_with ((with_reducible refine gate_dst (N := 62) rfl ?_); refine Kd.R_lit k37 w.heap.size 37 ?hg (N := 62) ?hd (xs := ([⟨⟨#[99, 111, 110, 116, 114, 111, 108]⟩, st % 16, a, b⟩] : List S37)) (inner := [.string ⟨#[99, 111, 110, 116, 114, 111, 108]⟩, .int .i64 (st % 16), .int .i64 a, .int .i64 b]) (ok := fun _ => True) (okp := fun _ => True) ?hr ?hp (fun _ hk => hk) trivial HB.out HS.out (by simp) ?_; (case hd => rfl); (case hg => rfl); (case hr => first | (go_simp; done) | (go_simp; rfl)); (case hp => exact reps1 (k37_mkM _ _ _ ⟨_, _, _, _⟩)); intro v135 w5 ho6 hb' hg_ hnew_; have HN := Aside0.mk hg_.size; clear hg_ hnew_; have HO := Aside0.mk ho6; clear HB; have HB := Aside0.mk hb'; clear hb' ho6; have ha5 := (HB.out.cell HD.out).trans ha; have hb5 := (HB.out.cell (p := ⟨gd, o + 1, none⟩) HD.out).trans hb; have hch5 := (HB.out.cell HDg.out).trans hch; have hfh5 := (HB.out.frozen HDg.out).trans hfh)
  go_still_tail 12, (by kernel_rfl)
  change wpList _ _ _ _ _ w5.drew
  go_wp2
  go_ret
  exact ⟨_, rfl, _, Kd.R_drew HO.out, below_drew HB.out, rfl⟩
set_option maxHeartbeats 8000000 in
set_option maxRecDepth 100000 in
theorem complete_c48 (w : World) (g : Nat) (st a b v : Int) (gd o cap : Nat) (h0 : 0 ≤ st) (h1 : st ≤ 255) (hk : st / 16 = 11) (ha0 : 0 ≤ a - 32) (ha0' : 32 ≤ a) (ha1 : decide (a < 32) = false) (ha3 : decide (a < 64) = true) (ha2 : a - 32 < 32) (hsub : IntKind.i64.wrap (a - 32) = a - 32) (hbt : bits BinOp.and IntKind.i64 st 15 = st % 16)
    (hs0 : 0 ≤ st % 16) (hs1 : st % 16 < 16)
    (hc0 : w.cell? ⟨g, 0, none⟩ = some (.int .i64 st)) (hc1 : w.cell? ⟨g, 1, none⟩ = some (.slice (some ⟨gd, o, none⟩) 2 cap))
    (hch : w.cell? ⟨g, 2 + (st % 16).toNat * 32 + (a - 32).toNat, none⟩ = some (.int .i64 v))
    (hfh : w.frozen? ⟨g, 2 + (st % 16).toNat * 32 + (a - 32).toNat, none⟩ = false)
    (ha : w.cell? ⟨gd, o, none⟩ = some (.int .i64 a)) (hb : w.cell? ⟨gd, o + 1, none⟩ = some (.int .i64 b)) :
    Calls Try.prog 26 #[.pointer (some ⟨g, 0, none⟩)] w fun e w' => ∃ v0_ : Value, e = .returned v0_ ∧ Kd.R k37 37 w' w.heap.size (fun _ => True) v0_ [⟨⟨#[99, 111, 110, 116, 114, 111, 108]⟩, st % 16, a, b⟩, ⟨⟨#[119, 105, 100, 101]⟩, st % 16, a - 32, wrap64 (wrap64 (128 * v) + b)⟩] ∧ Below w.heap.size w w' := by
  go_enter Try.func26, Try.ntmps26
  go_wp2
  go_quiet (fail)
  go_wp2
  go_still_tail 8, (by kernel_rfl)
  change wpList _ _ _ _ _ (w.drewN nq).drew
  have HD := Aside0.mk (World.block_lt_of_cell? w _ ha)
  have HDg := Aside0.mk (World.block_lt_of_cell? w _ hch)
  have HB := Aside0.mk (below_drew (pw_below_drewN (Below.refl w.heap.size w) nq))
  have HS := Aside0.mk (show w.heap.size ≤ (w.drewN nq).drew.heap.size from Nat.le_refl _)
  generalize (w.drewN nq).drew = w2 at HB HS ⊢
  go_wp2_with ((with_reducible refine gate_dst (N := 62) rfl ?_); refine Kd.R_lit k37 w.heap.size 37 ?hg (N := 62) ?hd (xs := ([⟨⟨#[99, 111, 110, 116, 114, 111, 108]⟩, st % 16, a, b⟩] : List S37)) (inner := [.string ⟨#[99, 111, 110, 116, 114, 111, 108]⟩, .int .i64 (st % 16), .int .i64 a, .int .i64 b]) (ok := fun _ => True) (okp := fun _ => True) ?hr ?hp (fun _ hk => hk) trivial HB.out HS.out (by simp) ?_; (case hd => rfl); (case hg => rfl); (case hr => first | (go_simp; done) | (go_simp; rfl)); (case hp => exact reps1 (k37_mkM _ _ _ ⟨_, _, _, _⟩)); intro v135 w5 ho6 hb' hg_ hnew_; have HN := Aside0.mk hg_.size; clear hg_ hnew_; have HO := Aside0.mk ho6; clear HB; have HB := Aside0.mk hb'; clear hb' ho6; have ha5 := (HB.out.cell HD.out).trans ha; have hb5 := (HB.out.cell (p := ⟨gd, o + 1, none⟩) HD.out).trans hb; have hch5 := (HB.out.cell HDg.out).trans hch; have hfh5 := (HB.out.frozen HDg.out).trans hfh)
  refine start_ (n := 26) (S := fun w' => w'.cell? ⟨gd, o, none⟩ = some (.int .i64 a) ∧ w'.cell? ⟨gd, o + 1, none⟩ = some (.int .i64 b) ∧ w'.cell? ⟨g, 2 + (st % 16).toNat * 32 + (a - 32).toNat, none⟩ = some (.int .i64 v)) (ds := [23, 24, 25]) #[false, false, false, false, false, false, false, false, false, false, false, false, false, false, false, false, false, false, false, false, false, false, false, false, false, false] (by kernel_rfl) rfl rfl ⟨ha5, hb5, hch5⟩ (fun hHeld => ?_)
  clear ha5 hb5 hch5 hfh5
  have HO6 := Aside0.mk (Kd.R_drew HO.out)
  have HB6 := Aside0.mk (below_drew HB.out)
  have HN6 := Aside0.mk (show w5.heap.size ≤ w5.drew.heap.size from Nat.le_refl _)
  clear hc0 hc1 ha hb hch hfh
  generalize w5.drew = w6 at HO6 HB6 HN6 hHeld ⊢
  refine pure_ (i := 0) (N := some 85) (v := ?_) (a' := ?_) #[true, false, false, false, false, false, false, false, false, false, false, false, false, false, false, false, false, false, false, false, false, false, false, false, false, false] rfl rfl (by kernel_rfl) (fun _ _ _ h => h) (Or.inl ⟨by rfl, ?_⟩) ?_ ?_
  rotate_left
  · intro w'
    go_simp
    with_reducible rfl
  rotate_left
  · simp only [Act.put, List.setIfInBounds_toArray, List.set_cons_zero, List.set_cons_succ, i64_w, i32_w]
    rfl
  refine take_ (i := 1) (N := some 86) (v := ?_) (a' := ?_) #[true, true, false, false, false, false, false, false, false, false, false, false, false, false, false, false, false, false, false, false, false, false, false, false, false, false] rfl rfl (by kernel_rfl) (fun _ _ _ h => h) (Or.inl ⟨by rfl, ?_⟩) hHeld ?_ ?_
  rotate_left
  · rintro w' ⟨s0, s1, s2⟩
    go_simp
    with_reducible rfl
  rotate_left
  · simp only [Act.put, List.setIfInBounds_toArray, List.set_cons_zero, List.set_cons_succ, i64_w, i32_w]
    rfl
  refine take_ (i := 2) (N := some 87) (v := ?_) (a' := ?_) #[true, true, true, false, false, false, false, false, false, false, false, false, false, false, false, false, false, false, false, false, false, false, false, false, false, false] rfl rfl (by kernel_rfl) (fun _ _ _ h => h) (Or.inl ⟨by rfl, ?_⟩) hHeld ?_ ?_
  rotate_left
  · rintro w' ⟨s0, s1, s2⟩
    go_simp
    with_reducible rfl
  rotate_left
  · simp only [Act.put, List.setIfInBounds_toArray, List.set_cons_zero, List.set_cons_succ, i64_w, i32_w]
    rfl
  refine take_ (i := 3) (N := some 88) (v := ?_) (a' := ?_) #[true, true, true, true, false, false, false, false, false, false, false, false, false, false, false, false, false, false, false, false, false, false, false, false, false, false] rfl rfl (by kernel_rfl) (fun _ _ _ h => h) (Or.inl ⟨by rfl, ?_⟩) hHeld ?_ ?_
  rotate_left
  · rintro w' ⟨s0, s1, s2⟩
    go_simp
    with_reducible rfl
  rotate_left
  · simp only [Act.put, List.setIfInBounds_toArray, List.set_cons_zero, List.set_cons_succ, i64_w, i32_w]
    rfl
  refine take_ (i := 4) (N := some 89) (v := ?_) (a' := ?_) #[true, true, true, true, true, false, false, false, false, false, false, false, false, false, false, false, false, false, false, false, false, false, false, false, false, false] rfl rfl (by kernel_rfl) (fun _ _ _ h => h) (Or.inl ⟨by rfl, ?_⟩) hHeld ?_ ?_
  rotate_left
  · rintro w' ⟨s0, s1, s2⟩
    go_simp
    with_reducible rfl
  rotate_left
  · simp only [Act.put, List.setIfInBounds_toArray, List.set_cons_zero, List.set_cons_succ, i64_w, i32_w]
    rfl
  refine take_ (i := 5) (N := some 90) (v := ?_) (a' := ?_) #[true, true, true, true, true, true, false, false, false, false, false, false, false, false, false, false, false, false, false, false, false, false, false, false, false, false] rfl rfl (by kernel_rfl) (fun _ _ _ h => h) (Or.inl ⟨by rfl, ?_⟩) hHeld ?_ ?_
  rotate_left
  · rintro w' ⟨s0, s1, s2⟩
    go_simp
    with_reducible rfl
  rotate_left
  · simp only [Act.put, List.setIfInBounds_toArray, List.set_cons_zero, List.set_cons_succ, i64_w, i32_w]
    rfl
  refine take_ (i := 6) (N := some 91) (v := ?_) (a' := ?_) #[true, true, true, true, true, true, true, false, false, false, false, false, false, false, false, false, false, false, false, false, false, false, false, false, false, false] rfl rfl (by kernel_rfl) (fun _ _ _ h => h) (Or.inl ⟨by rfl, ?_⟩) hHeld ?_ ?_
  rotate_left
  · rintro w' ⟨s0, s1, s2⟩
    go_simp
    with_reducible rfl
  rotate_left
  · simp only [Act.put, List.setIfInBounds_toArray, List.set_cons_zero, List.set_cons_succ, i64_w, i32_w]
    rfl
  refine take_ (i := 7) (N := some 92) (v := ?_) (a' := ?_) #[true, true, true, true, true, true, true, true, false, false, false, false, false, false, false, false, false, false, false, false, false, false, false, false, false, false] rfl rfl (by kernel_rfl) (fun _ _ _ h => h) (Or.inl ⟨by rfl, ?_⟩) hHeld ?_ ?_
  rotate_left
  · rintro w' ⟨s0, s1, s2⟩
    go_simp
    with_reducible rfl
  rotate_left
  · simp only [Act.put, List.setIfInBounds_toArray, List.set_cons_zero, List.set_cons_succ, i64_w, i32_w]
    rfl
  refine take_ (i := 8) (N := some 93) (v := ?_) (a' := ?_) #[true, true, true, true, true, true, true, true, true, false, false, false, false, false, false, false, false, false, false, false, false, false, false, false, false, false] rfl rfl (by kernel_rfl) (fun _ _ _ h => h) (Or.inl ⟨by rfl, ?_⟩) hHeld ?_ ?_
  rotate_left
  · rintro w' ⟨s0, s1, s2⟩
    go_simp
    with_reducible rfl
  rotate_left
  · simp only [Act.put, List.setIfInBounds_toArray, List.set_cons_zero, List.set_cons_succ, i64_w, i32_w]
    rfl
  refine take_ (i := 9) (N := some 94) (v := ?_) (a' := ?_) #[true, true, true, true, true, true, true, true, true, true, false, false, false, false, false, false, false, false, false, false, false, false, false, false, false, false] rfl rfl (by kernel_rfl) (fun _ _ _ h => h) (Or.inl ⟨by rfl, ?_⟩) hHeld ?_ ?_
  rotate_left
  · rintro w' ⟨s0, s1, s2⟩
    go_simp
    with_reducible rfl
  rotate_left
  · simp only [Act.put, List.setIfInBounds_toArray, List.set_cons_zero, List.set_cons_succ, i64_w, i32_w]
    rfl
  refine take_ (i := 10) (N := some 95) (v := ?_) (a' := ?_) #[true, true, true, true, true, true, true, true, true, true, true, false, false, false, false, false, false, false, false, false, false, false, false, false, false, false] rfl rfl (by kernel_rfl) (fun _ _ _ h => h) (Or.inl ⟨by rfl, ?_⟩) hHeld ?_ ?_
  rotate_left
  · rintro w' ⟨s0, s1, s2⟩
    go_simp
    with_reducible rfl
  rotate_left
  · simp only [Act.put, List.setIfInBounds_toArray, List.set_cons_zero, List.set_cons_succ, i64_w, i32_w]
    rfl
  refine take_ (i := 11) (N := some 96) (v := ?_) (a' := ?_) #[true, true, true, true, true, true, true, true, true, true, true, true, false, false, false, false, false, false, false, false, false, false, false, false, false, false] rfl rfl (by kernel_rfl) (fun _ _ _ h => h) (Or.inl ⟨by rfl, ?_⟩) hHeld ?_ ?_
  rotate_left
  · rintro w' ⟨s0, s1, s2⟩
    go_simp
    with_reducible rfl
  rotate_left
  · simp only [Act.put, List.setIfInBounds_toArray, List.set_cons_zero, List.set_cons_succ, i64_w, i32_w]
    rfl
  refine take_ (i := 12) (N := some 97) (v := ?_) (a' := ?_) #[true, true, true, true, true, true, true, true, true, true, true, true, true, false, false, false, false, false, false, false, false, false, false, false, false, false] rfl rfl (by kernel_rfl) (fun _ _ _ h => h) (Or.inl ⟨by rfl, ?_⟩) hHeld ?_ ?_
  rotate_left
  · rintro w' ⟨s0, s1, s2⟩
    go_simp
    with_reducible rfl
  rotate_left
  · simp only [Act.put, List.setIfInBounds_toArray, List.set_cons_zero, List.set_cons_succ, i64_w, i32_w]
    rfl
  refine take_ (i := 13) (N := some 98) (v := ?_) (a' := ?_) #[true, true, true, true, true, true, true, true, true, true, true, true, true, true, false, false, false, false, false, false, false, false, false, false, false, false] rfl rfl (by kernel_rfl) (fun _ _ _ h => h) (Or.inl ⟨by rfl, ?_⟩) hHeld ?_ ?_
  rotate_left
  · rintro w' ⟨s0, s1, s2⟩
    go_simp
    with_reducible rfl
  rotate_left
  · simp only [Act.put, List.setIfInBounds_toArray, List.set_cons_zero, List.set_cons_succ, i64_w, i32_w]
    rfl
  refine take_ (i := 14) (N := some 99) (v := ?_) (a' := ?_) #[true, true, true, true, true, true, true, true, true, true, true, true, true, true, true, false, false, false, false, false, false, false, false, false, false, false] rfl rfl (by kernel_rfl) (fun _ _ _ h => h) (Or.inl ⟨by rfl, ?_⟩) hHeld ?_ ?_
  rotate_left
  · rintro w' ⟨s0, s1, s2⟩
    go_simp
    with_reducible rfl
  rotate_left
  · simp only [Act.put, List.setIfInBounds_toArray, List.set_cons_zero, List.set_cons_succ, i64_w, i32_w]
    rfl
  refine take_ (i := 15) (N := some 100) (v := ?_) (a' := ?_) #[true, true, true, true, true, true, true, true, true, true, true, true, true, true, true, true, false, false, false, false, false, false, false, false, false, false] rfl rfl (by kernel_rfl) (fun _ _ _ h => h) (Or.inl ⟨by rfl, ?_⟩) hHeld ?_ ?_
  rotate_left
  · rintro w' ⟨s0, s1, s2⟩
    go_simp
    with_reducible rfl
  rotate_left
  · simp only [Act.put, List.setIfInBounds_toArray, List.set_cons_zero, List.set_cons_succ, i64_w, i32_w]
    rfl
  refine take_ (i := 16) (N := some 101) (v := ?_) (a' := ?_) #[true, true, true, true, true, true, true, true, true, true, true, true, true, true, true, true, true, false, false, false, false, false, false, false, false, false] rfl rfl (by kernel_rfl) (fun _ _ _ h => h) (Or.inl ⟨by rfl, ?_⟩) hHeld ?_ ?_
  rotate_left
  · rintro w' ⟨s0, s1, s2⟩
    go_simp
    with_reducible rfl
  rotate_left
  · simp only [Act.put, List.setIfInBounds_toArray, List.set_cons_zero, List.set_cons_succ, i64_w, i32_w]
    rfl
  refine take_ (i := 17) (N := some 102) (v := ?_) (a' := ?_) #[true, true, true, true, true, true, true, true, true, true, true, true, true, true, true, true, true, true, false, false, false, false, false, false, false, false] rfl rfl (by kernel_rfl) (fun _ _ _ h => h) (Or.inl ⟨by rfl, ?_⟩) hHeld ?_ ?_
  rotate_left
  · rintro w' ⟨s0, s1, s2⟩
    go_simp
    with_reducible rfl
  rotate_left
  · simp only [Act.put, List.setIfInBounds_toArray, List.set_cons_zero, List.set_cons_succ, i64_w, i32_w]
    rfl
  refine take_ (i := 18) (N := some 103) (v := ?_) (a' := ?_) #[true, true, true, true, true, true, true, true, true, true, true, true, true, true, true, true, true, true, true, false, false, false, false, false, false, false] rfl rfl (by kernel_rfl) (fun _ _ _ h => h) (Or.inl ⟨by rfl, ?_⟩) hHeld ?_ ?_
  rotate_left
  · rintro w' ⟨s0, s1, s2⟩
    go_simp
    with_reducible rfl
  rotate_left
  · simp only [Act.put, List.setIfInBounds_toArray, List.set_cons_zero, List.set_cons_succ, i64_w, i32_w]
    rfl
  refine take_ (i := 19) (N := some 104) (v := ?_) (a' := ?_) #[true, true, true, true, true, true, true, true, true, true, true, true, true, true, true, true, true, true, true, true, false, false, false, false, false, false] rfl rfl (by kernel_rfl) (fun _ _ _ h => h) (Or.inl ⟨by rfl, ?_⟩) hHeld ?_ ?_
  rotate_left
  · rintro w' ⟨s0, s1, s2⟩
    go_simp
    with_reducible rfl
  rotate_left
  · simp only [Act.put, List.setIfInBounds_toArray, List.set_cons_zero, List.set_cons_succ, i64_w, i32_w]
    rfl
  refine take_ (i := 20) (N := some 105) (v := ?_) (a' := ?_) #[true, true, true, true, true, true, true, true, true, true, true, true, true, true, true, true, true, true, true, true, true, false, false, false, false, false] rfl rfl (by kernel_rfl) (fun _ _ _ h => h) (Or.inl ⟨by rfl, ?_⟩) hHeld ?_ ?_
  rotate_left
  · rintro w' ⟨s0, s1, s2⟩
    go_simp
    with_reducible rfl
  rotate_left
  · simp only [Act.put, List.setIfInBounds_toArray, List.set_cons_zero, List.set_cons_succ, i64_w, i32_w]
    rfl
  refine take_ (i := 21) (N := some 106) (v := ?_) (a' := ?_) #[true, true, true, true, true, true, true, true, true, true, true, true, true, true, true, true, true, true, true, true, true, true, false, false, false, false] rfl rfl (by kernel_rfl) (fun _ _ _ h => h) (Or.inl ⟨by rfl, ?_⟩) hHeld ?_ ?_
  rotate_left
  · rintro w' ⟨s0, s1, s2⟩
    go_simp
    with_reducible rfl
  rotate_left
  · simp only [Act.put, List.setIfInBounds_toArray, List.set_cons_zero, List.set_cons_succ, i64_w, i32_w]
    rfl
  refine take_ (i := 22) (N := some 107) (v := ?_) (a' := ?_) #[true, true, true, true, true, true, true, true, true, true, true, true, true, true, true, true, true, true, true, true, true, true, true, false, false, false] rfl rfl (by kernel_rfl) (fun _ _ _ h => h) (Or.inl ⟨by rfl, ?_⟩) hHeld ?_ ?_
  rotate_left
  · rintro w' ⟨s0, s1, s2⟩
    go_simp
    with_reducible rfl
  rotate_left
  · simp only [Act.put, List.setIfInBounds_toArray, List.set_cons_zero, List.set_cons_succ, i64_w, i32_w]
    rfl
  refine last_ (i := 23) (N := some 108) #[true, true, true, true, true, true, true, true, true, true, true, true, true, true, true, true, true, true, true, true, true, true, true, true, false, false] rfl rfl (by kernel_rfl) (by decide) (fun K hK => ?_)
  refine value_ (v := .slice (some ⟨w6.heap.size, 0, none⟩) 1 1) (w1 := w6.alloc (.cells #[.string ⟨#[119, 105, 100, 101]⟩, .int .i64 (st % 16), .int .i64 (a - 32), .int .i64 (wrap64 (wrap64 (128 * v) + b))] 37)) rfl rfl (by first | (go_simp; done) | (go_simp; rfl)) ?_
  refine hK.out _ _ ?_
  clear hK K
  refine norm_ (a' := ?_) ?_ ?_
  rotate_left
  · simp only [Act.put, List.setIfInBounds_toArray, List.set_cons_zero, List.set_cons_succ, i64_w, i32_w]
    rfl
  refine last_ (i := 24) (N := some 109) #[true, true, true, true, true, true, true, true, true, true, true, true, true, true, true, true, true, true, true, true, true, true, true, true, true, false] rfl rfl (by kernel_rfl) (by decide) (fun K hK => ?_)
  refine Kd.R_append_step k37 (w0 := w) w.heap.size rfl (.tmp 85) (.tmp 108) 25 37 (.agg #[(.string ⟨#[]⟩), (.int .i64 0), (.int .i64 0), (.int .i64 0)]) 40 rfl Try.underlying25 infoM37 rfl (by decide) (by omega) v135 [⟨⟨#[99, 111, 110, 116, 114, 111, 108]⟩, st % 16, a, b⟩] (⟨⟨#[119, 105, 100, 101]⟩, st % 16, a - 32, wrap64 (wrap64 (128 * v) + b)⟩ : S37) [.string ⟨#[119, 105, 100, 101]⟩, .int .i64 (st % 16), .int .i64 (a - 32), .int .i64 (wrap64 (wrap64 (128 * v) + b))] (fun _ => True) (fun _ => False) rfl rfl (k37_mkM _ _ _ ⟨_, _, _, _⟩) (fun _ hk => hk.elim) (fun _ _ => trivial) HO6.out HB6.out (Nat.le_trans HS.out (Nat.le_trans HN.out HN6.out)) (by simp) ?_
  intro v1 w1 hr1 hb1 hg1 hat1
  clear hg1 hat1
  have HO1 := Aside0.mk hr1
  have HB1 := Aside0.mk hb1
  clear hr1 hb1 HB HO HO6 HB6 hHeld
  refine hK.out _ _ ?_
  clear hK K
  refine norm_ (a' := ?_) ?_ ?_
  rotate_left
  · simp only [Act.put, List.setIfInBounds_toArray, List.set_cons_zero, List.set_cons_succ, i64_w, i32_w]
    rfl
  refine last_ (i := 25) (N := some 5) #[true, true, true, true, true, true, true, true, true, true, true, true, true, true, true, true, true, true, true, true, true, true, true, true, true, true] rfl rfl (by kernel_rfl) (by decide) (fun K hK => ?_)
  refine value_ (v := v1) (w1 := w1) rfl rfl (by first | (go_simp; done) | (go_simp; rfl)) ?_
  refine hK.out _ _ ?_
  clear hK K
  refine norm_ (a' := ?_) ?_ ?_
  rotate_left
  · simp only [Act.put, List.setIfInBounds_toArray, List.set_cons_zero, List.set_cons_succ, i64_w, i32_w]
    rfl
  refine done_ (by kernel_rfl) ?_
  go_wp2
  go_ret
  exact ⟨_, rfl, HO1.out, HB1.out⟩
theorem Rd.below {w w' : World} {B g : Nat} {st : Int} {dv : Value} {xs hi : List Int} (h : Rd w B g st dv xs hi) (hb : Below w.heap.size w w') : Rd w' B g st dv xs hi :=
  ⟨(hb.block g (blk_lt h.cells)).trans h.cells, Kd.R_below h.own hb, h.len, h.base, Nat.le_trans h.top hb.size⟩
theorem Rd.setHi {w : World} {B g : Nat} {st : Int} {dv : Value} {xs hi : List Int} (h : Rd w B g st dv xs hi) (i : Nat) (hi' : i < 512) (v : Int) : Rd (w.setCell ⟨g, 2 + i, none⟩ (.int .i64 v)) B g st dv xs (hi.set i v) := by
  refine ⟨?_, Kd.R_set h.own h.cells (by decide) _ _, by rw [List.length_set]; exact h.len, h.base, by rw [World.setCell]; simpa using h.top⟩
  rw [blk_set h.cells, rdCells, rdCells]
  congr 2
  rw [List.setIfInBounds_toArray, show 2 + i = i + 2 from by omega]
  simp only [List.set_cons_succ]
  rw [List.set_append_left _ _ (by rw [nums_length, h.len]; exact hi')]
  simp [nums, List.map_set]
theorem Rd.setSt {w : World} {B g : Nat} {st : Int} {dv : Value} {xs hi : List Int} (h : Rd w B g st dv xs hi) (v : Int) : Rd (w.setCell ⟨g, 0, none⟩ (.int .i64 v)) B g v dv xs hi := by
  refine ⟨?_, Kd.R_set h.own h.cells (by decide) _ _, h.len, h.base, by rw [World.setCell]; simpa using h.top⟩
  rw [blk_set h.cells, rdCells, rdCells]
  rfl
theorem Rd.setNil {w : World} {B g : Nat} {st : Int} {dv : Value} {xs hi : List Int} (h : Rd w B g st dv xs hi) : Rd (w.setCell ⟨g, 1, none⟩ (.slice none 0 0)) B g st (.slice none 0 0) [] hi := by
  refine ⟨?_, Kd.R_nil _ _ _ _ _, h.len, h.base, by rw [World.setCell]; simpa using h.top⟩
  rw [blk_set h.cells, rdCells, rdCells]
  rfl
theorem rd_data {w : World} {B g : Nat} {st : Int} {dv : Value} {xs hi : List Int} (h : Rd w B g st dv xs hi) : ∃ A c, dv = .slice A xs.length c ∧ xs.length ≤ c ∧ Kd.C (Kd.int .i64) w A xs.length xs := Kd.R_reads h.own
theorem bits15' (st : Int) (h0 : 0 ≤ st) (h1 : st ≤ 255) : bits BinOp.and IntKind.i64 st 15 = st % 16 := by
  obtain ⟨n, rfl⟩ := Int.eq_ofNat_of_zero_le h0
  have : ∀ m : Fin 256, bits BinOp.and IntKind.i64 (m.val : Int) 15 = (m.val : Int) % 16 := by decide +kernel
  exact this ⟨n, by omega⟩
theorem rd_gd {w : World} {B g : Nat} {st : Int} {dv : Value} {xs hi : List Int} (h : Rd w B g st dv xs hi) (hp : 0 < xs.length) : ∃ gd c, dv = .slice (some ⟨gd, 0, none⟩) xs.length c ∧ Kd.C (Kd.int .i64) w (some ⟨gd, 0, none⟩) xs.length xs := by
  obtain ⟨A, c, rfl, hc, hC⟩ := rd_data h
  obtain ⟨_, inner, ⟨hl, hcase⟩, hr⟩ := h.own
  rcases hcase with ⟨h1, h2⟩ | ⟨gd, cap, cur, he, _⟩
  · omega
  · cases he
    exact ⟨gd, _, rfl, hC⟩
theorem rd_two {w : World} {B g : Nat} {st : Int} {dv : Value} {a b : Int} {hi : List Int} (h : Rd w B g st dv [a, b] hi) : ∃ gd c, dv = .slice (some ⟨gd, 0, none⟩) 2 c ∧ w.cell? ⟨gd, 0, none⟩ = some (.int .i64 a) ∧ w.cell? ⟨gd, 0 + 1, none⟩ = some (.int .i64 b) := by
  obtain ⟨gd, c, hd, hC⟩ := rd_gd h (by simp)
  obtain ⟨_, e, h0⟩ := Kd.at_int hC 0 (by omega) (by simp)
  cases e
  obtain ⟨_, e, h1⟩ := Kd.at_int hC 1 (by omega) (by simp)
  cases e
  refine ⟨gd, c, hd, ?_, ?_⟩
  · simpa [Addr.add, rd] using h0
  · simpa [Addr.add, rd] using h1
def msgsOf (st a b : Int) (hi : List Int) : List S37 :=
  if st / 16 = 8 then [⟨⟨#[111, 102, 102]⟩, st % 16, a, b⟩]
  else if st / 16 = 9 then (if b = 0 then [⟨⟨#[111, 102, 102]⟩, st % 16, a, 64⟩] else [⟨⟨#[111, 110]⟩, st % 16, a, b⟩])
  else if st / 16 = 11 then (if a < 32 then [⟨⟨#[99, 111, 110, 116, 114, 111, 108]⟩, st % 16, a, b⟩] else if a < 64 then [⟨⟨#[99, 111, 110, 116, 114, 111, 108]⟩, st % 16, a, b⟩, ⟨⟨#[119, 105, 100, 101]⟩, st % 16, a - 32, wrap64 (wrap64 (128 * hi.getD ((st % 16).toNat * 32 + (a - 32).toNat) 0) + b)⟩] else [⟨⟨#[99, 111, 110, 116, 114, 111, 108]⟩, st % 16, a, b⟩])
  else if st / 16 = 14 then [⟨⟨#[98, 101, 110, 100]⟩, st % 16, 0, wrap64 (a + wrap64 (128 * b))⟩]
  else []
def hiOf (st a b : Int) (hi : List Int) : List Int := if st / 16 = 11 ∧ a < 32 then hi.set ((st % 16).toNat * 32 + a.toNat) b else hi
def Done (B g : Nat) (st : Int) (dv : Value) (xs hi' : List Int) (ms : List S37) (w : World) (e : Ending) (w' : World) : Prop :=
  ∃ v0_ : Value, e = .returned v0_ ∧ Kd.R k37 37 w' w.heap.size (fun _ => True) v0_ ms ∧ Rd w' B g st dv xs hi' ∧ Below B w w' ∧ KeepBut w w' g none
theorem Done.of_below {B g : Nat} {st : Int} {dv : Value} {xs hi : List Int} {ms : List S37} {w w' : World} {v : Value} (H : Rd w B g st dv xs hi) (hr : Kd.R k37 37 w' w.heap.size (fun _ => True) v ms) (hb : Below w.heap.size w w') : Done B g st dv xs hi ms w (.returned v) w' :=
  ⟨v, rfl, hr, H.below hb, hb.mono H.top, KeepBut.of_below hb g none⟩
theorem complete_any (w : World) (B g : Nat) (st a b : Int) (dv : Value) (hi : List Int) (h0 : 128 ≤ st) (h1 : st ≤ 239) (ha0 : 0 ≤ a) (ha1 : a ≤ 127) (hb0 : 0 ≤ b) (hb1 : b ≤ 127) (H : Rd w B g st dv [a, b] hi) :
    Calls Try.prog 26 #[.pointer (some ⟨g, 0, none⟩)] w (Done B g st dv [a, b] (hiOf st a b hi) (msgsOf st a b hi) w) := by
  obtain ⟨gd, c, rfl, ha, hb⟩ := rd_two H
  have hc0 := rd_c0 H
  have hc1 := rd_c1 H
  have hbt := bits15' st (by omega) (by omega)
  by_cases k8 : st / 16 = 8
  · have e1 : hiOf st a b hi = hi := by unfold hiOf; rw [if_neg (by omega)]
    have e2 : msgsOf st a b hi = [⟨⟨#[111, 102, 102]⟩, st % 16, a, b⟩] := by unfold msgsOf; rw [if_pos k8]
    rw [e1, e2]
    exact (complete_off w g st a b gd 0 c (by omega) (by omega) k8 hbt hc0 hc1 ha hb).mono fun e w' ⟨v, he, hr, hb⟩ => he ▸ Done.of_below H hr hb
  by_cases k9 : st / 16 = 9
  · have e1 : hiOf st a b hi = hi := by unfold hiOf; rw [if_neg (by omega)]
    rw [e1]
    by_cases z : b = 0
    · have e2 : msgsOf st a b hi = [⟨⟨#[111, 102, 102]⟩, st % 16, a, 64⟩] := by unfold msgsOf; rw [if_neg k8, if_pos k9, if_pos z]
      rw [e2]
      exact (complete_on0 w g st a b gd 0 c (by omega) (by omega) k9 z hbt hc0 hc1 ha hb).mono fun e w' ⟨v, he, hr, hb⟩ => he ▸ Done.of_below H hr hb
    · have e2 : msgsOf st a b hi = [⟨⟨#[111, 110]⟩, st % 16, a, b⟩] := by unfold msgsOf; rw [if_neg k8, if_pos k9, if_neg z]
      rw [e2]
      exact (complete_on w g st a b gd 0 c (by omega) (by omega) k9 (by simpa using z) hbt hc0 hc1 ha hb).mono fun e w' ⟨v, he, hr, hb⟩ => he ▸ Done.of_below H hr hb
  by_cases k11 : st / 16 = 11
  · by_cases a32 : a < 32
    · have e1 : hiOf st a b hi = hi.set ((st % 16).toNat * 32 + a.toNat) b := by unfold hiOf; rw [if_pos ⟨k11, a32⟩]
      have e2 : msgsOf st a b hi = [⟨⟨#[99, 111, 110, 116, 114, 111, 108]⟩, st % 16, a, b⟩] := by unfold msgsOf; rw [if_neg k8, if_neg k9, if_pos k11, if_pos a32]
      rw [e1, e2]
      have hi5 : (st % 16).toNat * 32 + a.toNat < 512 := by omega
      have hh := rd_hi H _ hi5
      have hf := rd_fr H (2 + ((st % 16).toNat * 32 + a.toNat))
      rw [← Nat.add_assoc] at hh hf
      refine (complete_c32 w g st a b _ gd 0 c (by omega) (by omega) k11 ha0 (decide_eq_true a32) a32 hbt (by omega) (by omega) hc0 hc1 hh hf ha hb).mono ?_
      rintro e w' ⟨v, he, W, hr, hb, hw⟩
      have HW := H.below hb
      subst hw
      rw [Nat.add_assoc]
      exact ⟨v, he, Kd.R_set hr HW.cells (by decide) _ _, HW.setHi _ hi5 b, (hb.mono H.top).setCell H.base _, (KeepBut.of_below hb g none).set_ _ _⟩
    · have e1 : hiOf st a b hi = hi := by unfold hiOf; rw [if_neg (by omega)]
      rw [e1]
      by_cases a64 : a < 64
      · have e2 : msgsOf st a b hi = [⟨⟨#[99, 111, 110, 116, 114, 111, 108]⟩, st % 16, a, b⟩, ⟨⟨#[119, 105, 100, 101]⟩, st % 16, a - 32, wrap64 (wrap64 (128 * hi.getD ((st % 16).toNat * 32 + (a - 32).toNat) 0) + b)⟩] := by unfold msgsOf; rw [if_neg k8, if_neg k9, if_pos k11, if_neg a32, if_pos a64]
        rw [e2]
        have hi5 : (st % 16).toNat * 32 + (a - 32).toNat < 512 := by omega
        have hh := rd_hi H _ hi5
        have hf := rd_fr H (2 + ((st % 16).toNat * 32 + (a - 32).toNat))
        rw [← Nat.add_assoc] at hh hf
        exact (complete_c48 w g st a b _ gd 0 c (by omega) (by omega) k11 (by omega) (by omega) (decide_eq_false a32) (decide_eq_true a64) (by omega) (by rw [i64_w]; unfold wrap64; omega) hbt (by omega) (by omega) hc0 hc1 hh hf ha hb).mono fun e w' ⟨v, he, hr, hb⟩ => he ▸ Done.of_below H hr hb
      · have e2 : msgsOf st a b hi = [⟨⟨#[99, 111, 110, 116, 114, 111, 108]⟩, st % 16, a, b⟩] := by unfold msgsOf; rw [if_neg k8, if_neg k9, if_pos k11, if_neg a32, if_neg a64]
        rw [e2]
        exact (complete_c64 w g st a b gd 0 c (by omega) (by omega) k11 (decide_eq_false a32) (decide_eq_false a64) hbt hc0 hc1 ha hb).mono fun e w' ⟨v, he, hr, hb⟩ => he ▸ Done.of_below H hr hb
  have e1 : hiOf st a b hi = hi := by unfold hiOf; rw [if_neg (by omega)]
  rw [e1]
  by_cases k14 : st / 16 = 14
  · have e2 : msgsOf st a b hi = [⟨⟨#[98, 101, 110, 100]⟩, st % 16, 0, wrap64 (a + wrap64 (128 * b))⟩] := by unfold msgsOf; rw [if_neg k8, if_neg k9, if_neg k11, if_pos k14]
    rw [e2]
    have := complete_bend w g st a b gd 0 c (by omega) (by omega) k14 hbt hc0 hc1 ha hb
    rw [i64_w, i64_w] at this
    exact this.mono fun e w' ⟨v, he, hr, hb⟩ => he ▸ Done.of_below H hr hb
  · have e2 : msgsOf st a b hi = [] := by unfold msgsOf; rw [if_neg k8, if_neg k9, if_neg k11, if_neg k14]
    rw [e2]
    exact (complete_none w g st _ (by omega) (by omega) (by simpa using k8) (by simpa using k9) (by simpa using k11) (by simpa using k14) hc0 hc1).mono fun e w' ⟨he, hb⟩ => he ▸ Done.of_below H (Kd.R_nil _ _ _ _ _) hb
theorem complete_one (w : World) (B g : Nat) (st : Int) (dv : Value) (xs hi : List Int) (h0 : st / 16 = 12 ∨ st / 16 = 13) (H : Rd w B g st dv xs hi) :
    Calls Try.prog 26 #[.pointer (some ⟨g, 0, none⟩)] w (Done B g st dv xs hi [] w) := by
  have f : ∀ m : Int, m ≠ 12 → m ≠ 13 → (st / 16 == m) = false := fun m h h' => by
    rw [beq_eq_false_iff_ne]; omega
  exact (complete_none w g st _ (by omega) (by omega) (f 8 (by omega) (by omega)) (f 9 (by omega) (by omega)) (f 11 (by omega) (by omega)) (f 14 (by omega) (by omega)) (rd_c0 H) (rd_c1 H)).mono fun e w' ⟨he, hb⟩ => he ▸ Done.of_below H (Kd.R_nil _ _ _ _ _) hb
def wantsOf (st : Int) : Nat := if st / 16 = 12 ∨ st / 16 = 13 then 1 else 2
def msgsOf' (st : Int) (d : List Int) (hi : List Int) : List S37 := match d with | [a, b] => msgsOf st a b hi | _ => []
def hiOf' (st : Int) (d : List Int) (hi : List Int) : List Int := match d with | [a, b] => hiOf st a b hi | _ => hi
def rdStep (s : Int × List Int × List Int) (c : Int) : (Int × List Int × List Int) × List S37 :=
  if c ≥ 248 then (s, [])
  else if c ≥ 240 then ((0, [], s.2.2), [])
  else if c ≥ 128 then ((c, [], s.2.2), [])
  else if s.1 > 0 then (if (s.2.1 ++ [c]).length = wantsOf s.1 then ((s.1, [], hiOf' s.1 (s.2.1 ++ [c]) s.2.2), msgsOf' s.1 (s.2.1 ++ [c]) s.2.2) else ((s.1, s.2.1 ++ [c], s.2.2), []))
  else (s, [])
def rdRun (s : Int × List Int × List Int) (l : List Int) : (Int × List Int × List Int) × List S37 := l.foldl (fun p c => ((rdStep p.1 c).1, p.2 ++ (rdStep p.1 c).2)) (s, [])
theorem rdRun_snoc (s : Int × List Int × List Int) (l : List Int) (c : Int) : rdRun s (l ++ [c]) = ((rdStep (rdRun s l).1 c).1, (rdRun s l).2 ++ (rdStep (rdRun s l).1 c).2) := by
  unfold rdRun
  rw [List.foldl_append]
  rfl
theorem snoc_ind {P : List Int → Prop} (h0 : P []) (h1 : ∀ l c, P l → P (l ++ [c])) (l : List Int) : P l := by
  have h : ∀ r : List Int, P r.reverse := by
    intro r
    induction r with
    | nil => exact h0
    | cons c r ih => rw [List.reverse_cons]; exact h1 _ _ ih
  have := h l.reverse
  rwa [List.reverse_reverse] at this
def RdOk (s : Int × List Int × List Int) : Prop := (s.1 = 0 ∧ s.2.1 = []) ∨ (128 ≤ s.1 ∧ s.1 ≤ 239 ∧ (s.2.1 = [] ∨ ∃ a, s.2.1 = [a] ∧ 0 ≤ a ∧ a ≤ 127 ∧ wantsOf s.1 = 2))
theorem rdStep_ok (s : Int × List Int × List Int) (h : RdOk s) (c : Int) (h0 : 0 ≤ c) (h1 : c ≤ 255) : RdOk (rdStep s c).1 := by
  unfold rdStep
  by_cases h8 : c ≥ 248
  · rw [if_pos h8]; exact h
  rw [if_neg h8]
  by_cases h4 : c ≥ 240
  · rw [if_pos h4]; exact .inl ⟨rfl, rfl⟩
  rw [if_neg h4]
  by_cases h2 : c ≥ 128
  · rw [if_pos h2]; exact .inr ⟨by simpa using h2, by show c ≤ 239; omega, .inl rfl⟩
  rw [if_neg h2]
  by_cases hs : s.1 > 0
  · rw [if_pos hs]
    rcases h with ⟨h, _⟩ | ⟨ha, hb, hd⟩
    · omega
    · by_cases hw : (s.2.1 ++ [c]).length = wantsOf s.1
      · rw [if_pos hw]; exact .inr ⟨ha, hb, .inl rfl⟩
      · rw [if_neg hw]
        refine .inr ⟨ha, hb, .inr ?_⟩
        rcases hd with hd | ⟨a, hd, _, _, hw2⟩
        · refine ⟨c, by rw [hd]; rfl, h0, by omega, ?_⟩
          rw [hd] at hw
          unfold wantsOf at hw ⊢
          split at hw
          · exact absurd rfl hw
          · rw [if_neg (by assumption)]
        · rw [hd, hw2] at hw; exact absurd rfl hw
  · rw [if_neg hs]; exact h
theorem rdRun_ok (s : Int × List Int × List Int) (h : RdOk s) (l : List Int) (hl : ∀ x ∈ l, 0 ≤ x ∧ x ≤ 255) : RdOk (rdRun s l).1 := by
  revert hl
  refine snoc_ind (P := fun l => (∀ x ∈ l, 0 ≤ x ∧ x ≤ 255) → RdOk (rdRun s l).1) (fun _ => h) (fun l c ih hl => ?_) l
  rw [rdRun_snoc]
  exact rdStep_ok _ (ih (fun x hx => hl x (by simp [hx]))) c (hl c (by simp)).1 (hl c (by simp)).2
theorem rdStep_len (s : Int × List Int × List Int) (c : Int) : (rdStep s c).2.length ≤ 2 := by
  have : ∀ st a b hi, (msgsOf st a b hi).length ≤ 2 := by
    intro st a b hi
    unfold msgsOf
    repeat' split
    all_goals simp
  unfold rdStep
  repeat' split
  all_goals first | exact Nat.zero_le _ | skip
  unfold msgsOf'
  split
  · exact this _ _ _ _
  · simp
theorem rdRun_len (s : Int × List Int × List Int) (l : List Int) : (rdRun s l).2.length ≤ 2 * l.length := by
  refine snoc_ind (P := fun l => (rdRun s l).2.length ≤ 2 * l.length) (Nat.le_refl _) (fun l c ih => ?_) l
  rw [rdRun_snoc]
  have := rdStep_len (rdRun s l).1 c
  simp only [List.length_append, List.length_cons, List.length_nil]
  omega
def Stays (v0 v1 : Value) (n : Nat) : Prop := v1.ownBlock = none ∨ v1.ownBlock = v0.ownBlock ∨ ∃ b, v1.ownBlock = some b ∧ n ≤ b
structure FeedAt (w : World) (B g : Nat) (dv0 : Value) (s : Int × List Int × List Int) (ms : List S37) (W : World) (v : Value) (dv : Value) : Prop where
  rd : Rd W B g s.1 dv s.2.1 s.2.2
  out : Kd.R k37 37 W w.heap.size (fun _ => True) v ms
  below : Below B w W
  keep : KeepBut w W g dv0.ownBlock
  stays : Stays dv0 dv w.heap.size
def Fed (B g : Nat) (s' : Int × List Int × List Int) (ms : List S37) (dv0 : Value) (w : World) (e : Ending) (w' : World) : Prop :=
  ∃ v0_ dv : Value, e = .returned (.tuple #[v0_, .int .i64 0]) ∧ FeedAt w B g dv0 s' ms w' v0_ dv
theorem FeedAt.cellAt {w : World} {B g : Nat} {dv0 : Value} {s : Int × List Int × List Int} {ms : List S37} {W : World} {v dv : Value} (h : FeedAt w B g dv0 s ms W v dv) {a : Addr} {u : Value} (hc : w.cell? a = some u) (h1 : a.block ≠ g) (h2 : some a.block ≠ dv0.ownBlock) : W.cell? a = some u := by
  have hb := World.block_lt_of_cell? w a hc
  have := h.keep.2 a.block hb h1 h2
  rw [← hc]
  unfold World.cell?
  rw [this]
theorem FeedAt.setSt {w : World} {B g : Nat} {dv0 : Value} {s : Int × List Int × List Int} {ms : List S37} {W : World} {v dv : Value} (h : FeedAt w B g dv0 s ms W v dv) (c : Int) : FeedAt w B g dv0 (c, s.2.1, s.2.2) ms (W.setCell ⟨g, 0, none⟩ (.int .i64 c)) v dv :=
  ⟨h.rd.setSt c, Kd.R_set h.out h.rd.cells (by decide) _ _, h.below.setCell h.rd.base _, h.keep.set_ _ _, h.stays⟩
theorem FeedAt.setNil {w : World} {B g : Nat} {dv0 : Value} {s : Int × List Int × List Int} {ms : List S37} {W : World} {v dv : Value} (h : FeedAt w B g dv0 s ms W v dv) : FeedAt w B g dv0 (s.1, [], s.2.2) ms (W.setCell ⟨g, 1, none⟩ (.slice none 0 0)) v (.slice none 0 0) :=
  ⟨h.rd.setNil, Kd.R_set h.out h.rd.cells (by decide) _ _, h.below.setCell h.rd.base _, h.keep.set_ _ _, .inl rfl⟩
theorem KeepBut.weak {w w1 : World} {g : Nat} (h : KeepBut w w1 g none) (row : Option Nat) : KeepBut w w1 g row := ⟨h.1, fun i hi hg _ => h.2 i hi hg (by simp)⟩
theorem FeedAt.cellsAt {w : World} {B g : Nat} {dv0 : Value} {s : Int × List Int × List Int} {ms : List S37} {W w1 : World} {v dv : Value} (h : FeedAt w B g dv0 s ms W v dv) (hg : W.grownBy w1 dv.ownBlock) : w1.heap[g]? = some (.cells (rdCells s.1 dv s.2.2) 60 (0, 0)) :=
  blk_grown h.rd.cells hg (Kd.R_ne h.rd.own h.rd.cells (by decide))
theorem FeedAt.pushed {w : World} {B g : Nat} {dv0 : Value} {s : Int × List Int × List Int} {ms : List S37} {W w1 : World} {v dv v1 : Value} {xs : List Int} (h : FeedAt w B g dv0 s ms W v dv) (hr : Kd.R (Kd.int .i64) 3 w1 B (fun _ => True) v1 xs) (hb : Below B W w1) (hg : W.grownBy w1 dv.ownBlock) (hat : v1.ownBlock = dv.ownBlock ∨ ∃ b, v1.ownBlock = some b ∧ W.heap.size ≤ b) :
    FeedAt w B g dv0 (s.1, xs, s.2.2) ms (w1.setCell ⟨g, 1, none⟩ v1) v v1 := by
  have hc := h.cellsAt hg
  refine ⟨⟨?_, Kd.R_set hr hc (by decide) _ _, h.rd.len, h.rd.base, ?_⟩, Kd.R_set (Kd.R_over h.out h.rd.own (by decide) hg) hc (by decide) _ _, ?_, ?_, ?_⟩
  · rw [blk_set hc, rdCells, rdCells]
    rfl
  · have := hb.size
    have := h.rd.top
    rw [World.setCell]
    simp
    omega
  · exact (h.below.trans hb).setCell h.rd.base _
  · refine KeepBut.set_ ?_ _ _
    rcases h.stays with e | e | ⟨b, e, hle⟩
    · rw [e] at hg
      exact KeepBut.trans h.keep (KeepBut.weak (KeepBut.of_grown hg g) _) (.inl rfl)
    · rw [e] at hg
      exact KeepBut.trans h.keep (KeepBut.of_grown hg g) (.inl rfl)
    · exact KeepBut.trans h.keep (KeepBut.of_grown hg g) (.inr ⟨b, e, hle⟩)
  · rcases hat with e | ⟨b, e, hle⟩
    · rcases h.stays with e' | e' | ⟨b, e', hle⟩
      · exact .inl (e.trans e')
      · exact .inr (.inl (e.trans e'))
      · exact .inr (.inr ⟨b, e.trans e', hle⟩)
    · exact .inr (.inr ⟨b, e, Nat.le_trans h.keep.1 hle⟩)
theorem out_apart {W : World} {b g : Nat} {v : Value} {xs : List S37} {cells : Array Value} (h : Kd.R k37 37 W b (fun _ => True) v xs) (hb : W.heap[g]? = some (.cells cells 60 (0, 0))) : Kd.R k37 37 W b (fun k => k ≠ g) v xs :=
  Kd.R_mono (Kd.R_apart' (v := .slice (some ⟨g, 0, none⟩) 1 1) (e' := 60) h (fun k hk => by simp [Value.ownBlock] at hk; subst hk; exact ⟨_, hb⟩) (by decide)) (fun k hk => by
    have := hk.2
    simpa [Value.ownBlock] using this)
theorem FeedAt.drewN {w : World} {B g : Nat} {dv0 : Value} {s : Int × List Int × List Int} {ms : List S37} {W : World} {v dv : Value} (h : FeedAt w B g dv0 s ms W v dv) (n : Nat) : FeedAt w B g dv0 s ms (W.drewN n) v dv :=
  ⟨h.rd.below (pw_below_drewN (Below.refl _ _) n), Kd.R_drewN h.out n, pw_below_drewN h.below n, h.keep, h.stays⟩
theorem FeedAt.completed {w : World} {B g : Nat} {dv0 : Value} {s : Int × List Int × List Int} {ms : List S37} {W w4 : World} {v dv : Value} {hi' : List Int} (h : FeedAt w B g dv0 s ms W v dv) (hD : Rd w4 B g s.1 dv s.2.1 hi') (hb : Below B W w4) (hk : KeepBut W w4 g none) : FeedAt w B g dv0 (s.1, s.2.1, hi') ms w4 v dv :=
  ⟨hD, Kd.R_mono (Kd.R_keep (out_apart h.out h.rd.cells) hk (fun _ h => h)) (fun _ _ => trivial), h.below.trans hb, KeepBut.trans h.keep (KeepBut.weak hk _) (.inl rfl), h.stays⟩
theorem FeedAt.appended {w : World} {B g : Nat} {dv0 : Value} {s : Int × List Int × List Int} {ms ms' : List S37} {W w5 : World} {v v1 dv : Value} (h : FeedAt w B g dv0 s ms W v dv) (hB : B ≤ w.heap.size) (hr : Kd.R k37 37 w5 w.heap.size (fun _ => True) v1 ms') (hb : Below w.heap.size W w5) (hg : W.grownBy w5 v.ownBlock) : FeedAt w B g dv0 s ms' w5 v1 dv := by
  refine ⟨⟨blk_grown h.rd.cells hg (Kd.R_ne h.out h.rd.cells (by decide)), Kd.R_over h.rd.own h.out (by decide) hg, h.rd.len, h.rd.base, Nat.le_trans h.rd.top hb.size⟩, hr, h.below.trans (hb.mono hB), ?_, h.stays⟩
  rcases Kd.R_base2 h.out with e | ⟨k, e, hk⟩
  · rw [e] at hg
    exact KeepBut.trans h.keep (KeepBut.weak (KeepBut.of_grown hg g) _) (.inl rfl)
  · exact KeepBut.trans h.keep (KeepBut.of_grown hg g) (.inr ⟨k, e, hk⟩)
theorem msgs_len (st : Int) (d hi : List Int) : (msgsOf' st d hi).length ≤ 2 := by
  have : ∀ st a b hi, (msgsOf st a b hi).length ≤ 2 := by
    intro st a b hi
    unfold msgsOf
    repeat' split
    all_goals simp
  unfold msgsOf'
  split
  · exact this _ _ _ _
  · simp
theorem complete_of (W : World) (B g : Nat) (s1 : Int × List Int × List Int) (dv : Value) (c : Int) (hk : RdOk s1) (hp : 0 < s1.1) (hw : s1.2.1.length + 1 = wantsOf s1.1) (h0 : 0 ≤ c) (h1 : c ≤ 127) (H : Rd W B g s1.1 dv (s1.2.1 ++ [c]) s1.2.2) :
    Calls Try.prog 26 #[.pointer (some ⟨g, 0, none⟩)] W (Done B g s1.1 dv (s1.2.1 ++ [c]) (hiOf' s1.1 (s1.2.1 ++ [c]) s1.2.2) (msgsOf' s1.1 (s1.2.1 ++ [c]) s1.2.2) W) := by
  obtain ⟨st, d, hi⟩ := s1
  simp only [] at *
  rcases hk with ⟨h, _⟩ | ⟨ha, hb, hd⟩
  · simp only [] at h; omega
  · simp only [] at ha hb hd
    rcases hd with rfl | ⟨a, rfl, ha0, ha1, hw2⟩
    · have : st / 16 = 12 ∨ st / 16 = 13 := by
        unfold wantsOf at hw
        split at hw
        · assumption
        · simp at hw
      exact complete_one W B g st dv [c] hi this H
    · exact complete_any W B g st a c dv hi ha hb ha0 ha1 h0 h1 H
theorem infoM3 : (Try.prog.info? 3).map (fun i => (i.zero, i.size, i.bytes)) = some (some (.int .i64 0), 1, 8) := by kernel_rfl
theorem length_is (st : Int) (w : World) : Calls Try.prog 25 #[.int .i64 st] w fun e w' => e = .returned (.int .i64 ((wantsOf st : Nat) : Int)) ∧ ∃ n, w' = w.drewN n := by
  unfold wantsOf
  by_cases h1 : st / 16 = 12
  · rw [if_pos (.inl h1)]
    go_enter Try.func25, Try.ntmps25
    go_wp2
    go_ret
    exact ⟨rfl, 0, rfl⟩
  · by_cases h2 : st / 16 = 13
    · rw [if_pos (.inr h2)]
      have h1b : (st / 16 == 12) = false := by simpa using h1
      clear h1
      go_enter Try.func25, Try.ntmps25
      go_wp2
      go_ret
      exact ⟨rfl, 0, rfl⟩
    · rw [if_neg (by simp [h1, h2])]
      have h1b : (st / 16 == 12) = false := by simpa using h1
      have h2b : (st / 16 == 13) = false := by simpa using h2
      clear h1 h2
      go_enter Try.func25, Try.ntmps25
      go_wp2
      go_ret
      exact ⟨rfl, 0, rfl⟩
def Head (w : World) (B g : Nat) (dv0 : Value) (s : Int × List Int × List Int) (l0 : List Int) (v6 v20 : Value) (W : World) : Prop :=
  ∃ (i : Nat) (dv : Value), i ≤ l0.length ∧ v20 = .int .i64 i ∧ Aside0 (FeedAt w B g dv0 (rdRun s (l0.take i)).1 (rdRun s (l0.take i)).2 W v6 dv)
theorem u8_i64 {c : Int} (h0 : 0 ≤ c) (h1 : c ≤ 255) : wrap64 c = c := by unfold wrap64; omega
set_option maxHeartbeats 8000000 in
set_option maxRecDepth 100000 in
theorem feed_any (w : World) (B g : Nat) (s : Int × List Int × List Int) (dv0 : Value) (A : Option Addr) (c0 : Nat) (l0 : List Int) (H : Rd w B g s.1 dv0 s.2.1 s.2.2) (hok : RdOk s)
    (hr0 : Kd.C (Kd.int .u8) w A l0.length l0) (hc0 : l0.length ≤ c0) (hl : l0.length ≤ 100000) (hx : ∀ x ∈ l0, 0 ≤ x ∧ x ≤ 255) (hfar : ∀ ad, A = some ad → 0 < l0.length → ad.block ≠ g ∧ some ad.block ≠ dv0.ownBlock) :
    Calls Try.prog 14 #[.pointer (some ⟨g, 0, none⟩), .slice A l0.length c0] w (Fed B g (rdRun s l0).1 (rdRun s l0).2 dv0 w) := by
  have HR := Aside0.mk hr0
  have HF := Aside0.mk hfar
  have HX := Aside0.mk hx
  have HS := Aside0.mk hok
  have HH := Aside0.mk H
  have hq := rd_c2 H
  clear hr0 hfar hx hok H
  go_enter Try.func14, Try.ntmps14
  go_wp2
  go_loopw [6, 20] (fun v6 v20 W => Head w B g dv0 s l0 v6 v20 W) (fun _ v20 _ => l0.length - (intOf v20).toNat)
  case atStart => exact ⟨0, dv0, Nat.zero_le _, rfl, ⟨HH.out, Kd.R_nil _ _ _ _ _, Below.refl _ _, KeepBut.refl _ _ _, .inr (.inl rfl)⟩⟩
  case round =>
    obtain ⟨i, dv, hi, rfl, HA⟩ := hrel
    by_cases hlt : i < l0.length
    · have hcell := Kd.at_int HR.out i (by omega) (by omega)
      obtain ⟨ad, rfl, hcell⟩ := hcell
      have hcell := HA.out.cellAt hcell (by rw [add_block]; exact (HF.out ad rfl (by omega)).1) (by rw [add_block]; exact (HF.out ad rfl (by omega)).2)
      have hcx := HX.out l0[i] (List.getElem_mem hlt)
      have hrd : rd l0 i = l0[i] := by simp [rd, hlt]
      rw [hrd, Int.toNat_natCast] at hcell
      have HT := Aside0.mk (show l0.take (i + 1) = l0.take i ++ [l0[i]] by rw [List.take_add_one, List.getElem?_eq_getElem hlt]; rfl)
      generalize l0[i] = c at hcell hcx HT
      clear hrd
      obtain ⟨hc1, hc2⟩ := hcx
      have hw := u8_i64 hc1 hc2
      by_cases h8 : 248 ≤ c
      · go_wp2
        go_roundw
        case rel => exact ⟨i + 1, dv, by omega, by go_num, ⟨by rw [HT.out, rdRun_snoc, rdStep, if_pos h8, List.append_nil]; exact HA.out⟩⟩
        case measure => simp [intOf]; omega
      have f0 := rd_c0 HA.out.rd
      have f1 := rd_c1 HA.out.rd
      have r0 := rd_fr HA.out.rd 0
      have r1 := rd_fr HA.out.rd 1
      by_cases h4 : 240 ≤ c
      · go_wp2
        go_roundw
        case rel => exact ⟨i + 1, _, by omega, by go_num, ⟨by rw [HT.out, rdRun_snoc, rdStep, if_neg (show ¬ c ≥ 248 by omega), if_pos h4, List.append_nil]; exact (HA.out.setSt 0).setNil⟩⟩
        case measure => simp [intOf]; omega
      by_cases h2 : 128 ≤ c
      · go_wp2
        go_roundw
        case rel => exact ⟨i + 1, _, by omega, by go_num, ⟨by rw [HT.out, rdRun_snoc, rdStep, if_neg (show ¬ c ≥ 248 by omega), if_neg (show ¬ c ≥ 240 by omega), if_pos h2, List.append_nil]; exact (HA.out.setSt c).setNil⟩⟩
        case measure => simp [intOf]; omega
      generalize hs : (rdRun s (l0.take i)).1 = s1 at HA f0 f1 r0 r1
      have HE := Aside0.mk hs
      clear hs
      by_cases hp : 0 < s1.1
      · have hk1 : RdOk s1 := by rw [← HE.out]; exact rdRun_ok s HS.out _ (fun x hx => HX.out x (List.mem_of_mem_take hx))
        have hn : s1.2.1.length ≤ 1 := by
          rcases hk1 with ⟨_, h⟩ | ⟨_, _, h | ⟨a, h, _⟩⟩ <;> rw [h] <;> simp
        have HN := Aside0.mk hn
        have HK := Aside0.mk hk1
        clear hn hk1
        go_wp2_with (at_builtin; go_loud (refine Kd.R_append (Kd.int .i64) (w0 := wr) B rfl (.tmp 57) (.tmp 60) 56 3 (.int .i64 0) 8 rfl Try.underlying56 infoM3 rfl (by decide) (by omega) dv s1.2.1 c [.int .i64 c] (fun _ => True) (fun _ => False) rfl (by first | (go_simp; done) | (go_simp; rfl)) rfl (fun _ hk => hk.elim) (fun _ _ => trivial) HA.out.rd.own (Below.refl _ _) HA.out.rd.top (by have := HN.out; omega) ?_); intro v1 w1 hr1 hb1 hg1 hat1; obtain ⟨A1, q1, rfl, _, _⟩ := Kd.R_reads hr1; have HG := Aside0.mk (HA.out.pushed hr1 hb1 hg1 hat1); have r1' := blk_frozen (HA.out.cellsAt hg1) 1; have f1' := (blk_cell (HA.out.cellsAt hg1) 1).trans (show (rdCells s1.1 dv s1.2.2)[1]? = some dv from rfl); clear hr1 hb1 hg1 hat1)
        have HG' := HG.out
        rw [show (s1.2.1 ++ [c]).length = s1.2.1.length + 1 by simp] at HG'
        clear HG f1' r1' f0 f1 r0 r1 HA hcell
        generalize w1.setCell ⟨g, 1, none⟩ (.slice A1 (s1.2.1.length + 1) q1) = W2 at HG' ⊢
        have g0 := rd_c0 HG'.rd
        have g1 := rd_c1 HG'.rd
        have t1 := rd_fr HG'.rd 1
        have HG := Aside0.mk HG'
        clear HG'
        by_cases hwn : s1.2.1.length + 1 = wantsOf s1.1
        · have hwb : (((s1.2.1.length : Int) + 1) == ((wantsOf s1.1 : Nat) : Int)) = true := by rw [beq_iff_eq]; omega
          have HWN := Aside0.mk hwn
          clear hwn
          go_quiet ((go_at_call 25; exact Calls.quiet_of (length_is s1.1 _)))
          have HG3 := Aside0.mk (HG.out.drewN nq)
          clear g0 g1 t1 HG
          generalize W2.drewN nq = W3 at HG3 ⊢
          go_wp2_with (first | (go_at_call 26; refine (complete_of W3 B g s1 _ c HK.out hp HWN.out hc1 (by omega) HG3.out.rd).mono ?_; rintro e w4 ⟨v0_, rfl, hr4, hd4, hb4, hk4⟩; obtain ⟨A2, q2, rfl, _, hC2⟩ := Kd.R_reads hr4; have HC2 := Aside0.mk hC2; have HG4 := Aside0.mk (HG3.out.completed hd4 hb4 hk4); clear hr4 hd4 hb4 hk4 hC2) | (at_builtin; go_loud (refine Kd.R_append_rows k37 (w0 := w4) w.heap.size rfl (.tmp 75) (.tmp 77) 25 37 (.agg #[(.string ⟨#[]⟩), (.int .i64 0), (.int .i64 0), (.int .i64 0)]) 40 rfl Try.underlying25 infoM37 rfl (by decide) (by omega) u6 (rdRun s (l0.take i)).2 (msgsOf' s1.1 (s1.2.1 ++ [c]) s1.2.2) A2 (msgsOf' s1.1 (s1.2.1 ++ [c]) s1.2.2).length q2 (fun _ => True) (fun _ => False) rfl (by first | (go_simp; done) | (go_simp; rfl)) HG4.out.out HC2.out (fun x cs h => k37_open h ▸ k37_mkM _ _ _ x) (fun _ hk => hk.elim) (fun _ _ => trivial) (Below.refl _ _) HG4.out.keep.1 (by have := rdRun_len s (l0.take i); have := List.length_take_le i l0; have := msgs_len s1.1 (s1.2.1 ++ [c]) s1.2.2; omega) ?_); intro v5 w5 hr5 hb5 hg5 hat5; have HG5 := Aside0.mk (HG4.out.appended HH.out.top hr5 hb5 hg5); have t5 := rd_fr HG5.out.rd 1; have g5 := rd_c1 HG5.out.rd; clear hr5 hb5 hg5 hat5))
          go_roundw
          case rel => exact ⟨i + 1, _, by omega, by go_num, ⟨by rw [HT.out, rdRun_snoc, HE.out, rdStep, if_neg (show ¬ c ≥ 248 by omega), if_neg (show ¬ c ≥ 240 by omega), if_neg (show ¬ c ≥ 128 by omega), if_pos hp, if_pos (by rw [List.length_append]; exact HWN.out)]; exact HG5.out.setNil⟩⟩
          case measure => simp [intOf]; omega
        · have hwb : (((s1.2.1.length : Int) + 1) == ((wantsOf s1.1 : Nat) : Int)) = false := by rw [beq_eq_false_iff_ne]; omega
          have HWN := Aside0.mk hwn
          clear hwn
          go_quiet ((go_at_call 25; exact Calls.quiet_of (length_is s1.1 _)))
          go_wp2
          go_roundw
          case rel => exact ⟨i + 1, _, by omega, by go_num, ⟨by rw [HT.out, rdRun_snoc, HE.out, rdStep, if_neg (show ¬ c ≥ 248 by omega), if_neg (show ¬ c ≥ 240 by omega), if_neg (show ¬ c ≥ 128 by omega), if_pos hp, if_neg (by rw [List.length_append]; exact HWN.out), List.append_nil]; exact HG.out.drewN nq⟩⟩
          case measure => simp [intOf]; omega
      · go_wp2
        go_roundw
        case rel => exact ⟨i + 1, _, by omega, by go_num, ⟨by rw [HT.out, rdRun_snoc, HE.out, rdStep, if_neg (show ¬ c ≥ 248 by omega), if_neg (show ¬ c ≥ 240 by omega), if_neg (show ¬ c ≥ 128 by omega), if_neg hp, List.append_nil]; exact HA.out⟩⟩
        case measure => simp [intOf]; omega
    · have HT := Aside0.mk (show l0.take i = l0 from List.take_of_length_le (by omega))
      go_wp2
      go_ret2
      exact ⟨_, dv, rfl, by have := HA.out; rw [HT.out] at this; exact this⟩
theorem newCells : Try.zeroCells60.setIfInBounds 514 (.bool true) = rdCells 0 (.slice none 0 0) (List.replicate 512 0) := by kernel_rfl
def Fresh (w : World) (e : Ending) (w' : World) : Prop := ∃ g, e = .returned (.pointer (some ⟨g, 0, none⟩)) ∧ w.heap.size ≤ g ∧ Rd w' w.heap.size g 0 (.slice none 0 0) [] (List.replicate 512 0) ∧ Below w.heap.size w w'
set_option maxHeartbeats 8000000 in
set_option maxRecDepth 100000 in
theorem new_any (w : World) : Calls Try.prog 12 #[] w (Fresh w) := by
  go_enter Try.func12, Try.ntmps12
  go_wp2
  go_ret
  refine ⟨w.heap.size, rfl, Nat.le_refl _, ?_, below_alloc (Below.refl _ _) _⟩
  rw [newCells]
  exact ⟨blk_new w _, Kd.R_nil _ _ _ _ _, by simp, Nat.le_refl _, (below_alloc (Below.refl _ _) _ : Below w.heap.size w _).size⟩
theorem c_lt {k : IntKind} {w : World} {A : Option Addr} {xs : List Int} (h : Kd.C (Kd.int k) w A xs.length xs) (ad : Addr) (he : A = some ad) (hp : 0 < xs.length) : ad.block < w.heap.size := by
  obtain ⟨ad', he', hc⟩ := Kd.at_int h 0 (by omega) (by omega)
  cases he.symm.trans he'
  have := World.block_lt_of_cell? w _ hc
  rwa [add_block] at this
def message_Read.f (k : Nat) (b : List Int) : Option (List S37) := if b.length ≤ 100000 ∧ (∀ x ∈ b, 0 ≤ x ∧ x ≤ 255) then some (rdRun (0, [], List.replicate 512 0) b).2 else none
theorem message_Read.mono : ∀ a0 k, LeO (message_Read.f k a0) (message_Read.f (k + 1) a0) := fun a0 k => LeO.refl _
set_option maxHeartbeats 8000000 in
set_option maxRecDepth 100000 in
theorem message_Read.calls (k : Nat) (A0 : Option Addr) (c0 : Nat) (l0 : List Int) (r : List S37) (w : World) (hr0 : Kd.C (Kd.int .u8) w A0 l0.length l0) (hc0 : l0.length ≤ c0) (h : message_Read.f k l0 = some r) :
    Calls Try.prog 10 #[.slice A0 l0.length c0] w fun e w' => ∃ v0_ : Value, e = .returned (v0_) ∧ Kd.R k37 37 w' w.heap.size (fun _ => True) v0_ r ∧ Below w.heap.size w w' := by
  unfold message_Read.f at h
  by_cases hg : l0.length ≤ 100000 ∧ (∀ x ∈ l0, 0 ≤ x ∧ x ≤ 255)
  · rw [if_pos hg] at h
    obtain ⟨hl, hx⟩ := hg
    have HX := Aside0.mk hx
    have HR := Aside0.mk hr0
    have HH := Aside0.mk (Option.some.inj h)
    clear hx hr0 h
    go_enter Try.func10, Try.ntmps10
    go_wp2_with (first | (go_at_call 12; refine (new_any _).mono ?_; rintro e w1 ⟨g, rfl, hg, hd, hb⟩; have HG := Aside0.mk hg; have HD := Aside0.mk hd; have HB := Aside0.mk hb; clear hg hd hb) | (go_at_call 14; refine (feed_any w1 w.heap.size g (0, [], List.replicate 512 0) _ A0 c0 l0 HD.out (.inl ⟨rfl, rfl⟩) (HR.out.imp_ HB.out (fun _ _ h => h)) hc0 hl HX.out ?_).mono ?_; rotate_left; rintro e w2 ⟨v0_, dv, rfl, hf⟩; have HF := Aside0.mk hf; clear hf))
    · go_ret
      exact ⟨_, rfl, HH.out ▸ Kd.R_lower HF.out.out HB.out.size, HB.out.trans HF.out.below⟩
    · intro ad he hp
      have := c_lt HR.out ad he hp
      exact ⟨by have := HG.out; omega, by simp [Value.ownBlock]⟩
  · rw [if_neg hg] at h
    cases h
end Go.Proofs.Ytlaidcoickeihaa.SEventsMade
namespace Go.Proofs.Ytlaidcoickeihaa.SEventsMade
open Go.RowKit Go.Proofs.Ytlaidcoickeihaa.Wd.PrintWords Go.Proofs.Ytlaidcoickeihaa.Wd.PrintLast Go.Proofs.Ytlaidcoickeihaa.Wd.PrintMore
attribute [local go_sem] max2_int min2_int max_two min_two max_three min_three max_four min_four
attribute [local go_sem] max2_int min2_int max_two min_two max_three min_three max_four min_four
attribute [local go_sem] max2_int min2_int max_two min_two max_three min_three max_four min_four
attribute [local go_sem high] eqA37
attribute [local go_sem high] eqA77
def message_Map_fits.f (a0_0 : ByteArray) (a0_1 : Int) (a0_2 : Int) (a0_3 : ByteArray) (a0_4 : Int) (a0_5 : Int) (a0_6 : Int) (a0_7 : Int) (a0_8 : Bool) (a1_0 : ByteArray) (a1_1 : Int) (a1_2 : Int) (a1_3 : Int) : Option Bool := some (Nb.fitsOf a0_0 a0_1 a0_2 a1_0 a1_1 a1_2)
theorem message_Map_fits.calls (a0_0 : ByteArray) (a0_1 : Int) (a0_2 : Int) (a0_3 : ByteArray) (a0_4 : Int) (a0_5 : Int) (a0_6 : Int) (a0_7 : Int) (a0_8 : Bool) (a1_0 : ByteArray) (a1_1 : Int) (a1_2 : Int) (a1_3 : Int) (r : Bool) (w : World) (h : message_Map_fits.f a0_0 a0_1 a0_2 a0_3 a0_4 a0_5 a0_6 a0_7 a0_8 a1_0 a1_1 a1_2 a1_3 = some r) :
    Calls Try.prog 35 #[.agg #[.string a0_0, .int .i64 a0_1, .int .i64 a0_2, .string a0_3, .int .i64 a0_4, .int .i64 a0_5, .int .i64 a0_6, .int .i64 a0_7, .bool a0_8], .agg #[.string a1_0, .int .i64 a1_1, .int .i64 a1_2, .int .i64 a1_3]] w fun e w' => e = .returned (.bool r) ∧ Below w.heap.size w w' := by
  obtain rfl := Option.some.inj h
  exact Nb.fits_any w a0_0 a0_1 a0_2 a0_3 a0_4 a0_5 a0_6 a0_7 a0_8 a1_0 a1_1 a1_2 a1_3
def message_Map_value.f (a0_0 : ByteArray) (a0_1 : Int) (a0_2 : Int) (a0_3 : ByteArray) (a0_4 : Int) (a0_5 : Int) (a0_6 : Int) (a0_7 : Int) (a0_8 : Bool) (a1_0 : ByteArray) (a1_1 : Int) (a1_2 : Int) (a1_3 : Int) : Option (Int × Int × Bool) := Nb.mapOf a0_0 a0_4 a0_5 a0_6 a0_7 a0_8 a1_0 a1_2 a1_3
theorem message_Map_value.calls (a0_0 : ByteArray) (a0_1 : Int) (a0_2 : Int) (a0_3 : ByteArray) (a0_4 : Int) (a0_5 : Int) (a0_6 : Int) (a0_7 : Int) (a0_8 : Bool) (a1_0 : ByteArray) (a1_1 : Int) (a1_2 : Int) (a1_3 : Int) (r1 : Int) (r2 : Int) (r3 : Bool) (w : World) (h : message_Map_value.f a0_0 a0_1 a0_2 a0_3 a0_4 a0_5 a0_6 a0_7 a0_8 a1_0 a1_1 a1_2 a1_3 = some (r1, r2, r3)) :
    Calls Try.prog 36 #[.agg #[.string a0_0, .int .i64 a0_1, .int .i64 a0_2, .string a0_3, .int .i64 a0_4, .int .i64 a0_5, .int .i64 a0_6, .int .i64 a0_7, .bool a0_8], .agg #[.string a1_0, .int .i64 a1_1, .int .i64 a1_2, .int .i64 a1_3]] w fun e w' => e = .returned (.tuple #[.agg #[.int .i64 r1, .int .i64 r2], .bool r3]) ∧ Below w.heap.size w w' := by
  have h' : Nb.mapOf a0_0 a0_4 a0_5 a0_6 a0_7 a0_8 a1_0 a1_2 a1_3 = some (r1, r2, r3) := h
  unfold Nb.mapOf at h'
  split at h'
  · rename_i hc
    obtain ⟨h4, h5, h6, h7, h2, h3⟩ := hc
    have hv := Nb.value_any is_calls make_calls w a0_0 a0_3 a1_0 a0_1 a0_2 a0_4 a0_5 a0_6 a0_7 a1_1 a1_2 a1_3 a0_8 h4 h5 h6 h7 h2 h3
    obtain ⟨rfl, h8⟩ := Prod.mk.inj (Option.some.inj h')
    obtain ⟨rfl, rfl⟩ := Prod.mk.inj h8
    exact hv
  · cases h'
def serinetteref21_fits.f (a0_0 : ByteArray) (a0_1 : Int) (a0_2 : Int) (a0_3 : ByteArray) (a0_4 : Int) (a0_5 : Int) (a0_6 : Int) (a0_7 : Int) (a0_8 : Bool) (a1_0 : ByteArray) (a1_1 : Int) (a1_2 : Int) (a1_3 : Int) : Option Bool := some (Nb.fitsOf a0_0 a0_1 a0_2 a1_0 a1_1 a1_2)
theorem serinetteref21_fits.calls (a0_0 : ByteArray) (a0_1 : Int) (a0_2 : Int) (a0_3 : ByteArray) (a0_4 : Int) (a0_5 : Int) (a0_6 : Int) (a0_7 : Int) (a0_8 : Bool) (a1_0 : ByteArray) (a1_1 : Int) (a1_2 : Int) (a1_3 : Int) (r : Bool) (w : World) (h : serinetteref21_fits.f a0_0 a0_1 a0_2 a0_3 a0_4 a0_5 a0_6 a0_7 a0_8 a1_0 a1_1 a1_2 a1_3 = some r) :
    Calls Try.prog 38 #[.agg #[.string a0_0, .int .i64 a0_1, .int .i64 a0_2, .string a0_3, .int .i64 a0_4, .int .i64 a0_5, .int .i64 a0_6, .int .i64 a0_7, .bool a0_8], .agg #[.string a1_0, .int .i64 a1_1, .int .i64 a1_2, .int .i64 a1_3]] w fun e w' => e = .returned (.bool r) ∧ Below w.heap.size w w' := by
  obtain rfl := Option.some.inj h
  exact Nb.rfits_any w a0_0 a0_1 a0_2 a0_3 a0_4 a0_5 a0_6 a0_7 a0_8 a1_0 a1_1 a1_2 a1_3
def serinetteref21_value.f (a0_0 : ByteArray) (a0_1 : Int) (a0_2 : Int) (a0_3 : ByteArray) (a0_4 : Int) (a0_5 : Int) (a0_6 : Int) (a0_7 : Int) (a0_8 : Bool) (a1_0 : ByteArray) (a1_1 : Int) (a1_2 : Int) (a1_3 : Int) : Option (Int × Int × Bool) := Nb.rmapOf a0_0 a0_4 a0_5 a0_6 a0_7 a0_8 a1_0 a1_2 a1_3
theorem serinetteref21_value.calls (a0_0 : ByteArray) (a0_1 : Int) (a0_2 : Int) (a0_3 : ByteArray) (a0_4 : Int) (a0_5 : Int) (a0_6 : Int) (a0_7 : Int) (a0_8 : Bool) (a1_0 : ByteArray) (a1_1 : Int) (a1_2 : Int) (a1_3 : Int) (r1 : Int) (r2 : Int) (r3 : Bool) (w : World) (h : serinetteref21_value.f a0_0 a0_1 a0_2 a0_3 a0_4 a0_5 a0_6 a0_7 a0_8 a1_0 a1_1 a1_2 a1_3 = some (r1, r2, r3)) :
    Calls Try.prog 39 #[.agg #[.string a0_0, .int .i64 a0_1, .int .i64 a0_2, .string a0_3, .int .i64 a0_4, .int .i64 a0_5, .int .i64 a0_6, .int .i64 a0_7, .bool a0_8], .agg #[.string a1_0, .int .i64 a1_1, .int .i64 a1_2, .int .i64 a1_3]] w fun e w' => e = .returned (.tuple #[.agg #[.int .i64 r1, .int .i64 r2], .bool r3]) ∧ Below w.heap.size w w' := by
  have h' : Nb.rmapOf a0_0 a0_4 a0_5 a0_6 a0_7 a0_8 a1_0 a1_2 a1_3 = some (r1, r2, r3) := h
  unfold Nb.rmapOf at h'
  split at h'
  · rename_i hc
    obtain ⟨h4, h5, h6, h7, h2, h3⟩ := hc
    have hv := Nb.rvalue_any ris_calls whole_calls w a0_0 a0_3 a1_0 a0_1 a0_2 a0_4 a0_5 a0_6 a0_7 a1_1 a1_2 a1_3 a0_8 h4 h5 h6 h7 h2 h3
    obtain ⟨rfl, h8⟩ := Prod.mk.inj (Option.some.inj h')
    obtain ⟨rfl, rfl⟩ := Prod.mk.inj h8
    exact hv
  · cases h'
def serinettelaw21_awake.f (k : Nat)  : Option (Bool) := (message_Read.f k (([144, 60, 100, 62, 0] : List Int))).bind fun t104 => (if (t104.length : Int) = 2 then (if 0 < (t104.length : Int) then (if ((((rd_T37 t104 0).f0).toList) == ([111, 110] : List UInt8) && (((rd_T37 t104 0).f1) == 0 && (((rd_T37 t104 0).f2) == 60 && (((rd_T37 t104 0).f3) == 100)))) = true then (if 1 < (t104.length : Int) then (some ((((rd_T37 t104 1).f0).toList) == ([111, 102, 102] : List UInt8) && (((rd_T37 t104 1).f1) == 0 && (((rd_T37 t104 1).f2) == 62 && (((rd_T37 t104 1).f3) == 64))))) else (none)) else (some false)) else (none)) else (some false))
theorem serinettelaw21_awake.mono : ∀ k, LeO (serinettelaw21_awake.f k ) (serinettelaw21_awake.f (k + 1) ) := by
 intro  k
 unfold serinettelaw21_awake.f
 repeat' first
   | (with_reducible exact message_Read.mono _ _)
   | (with_reducible exact LeO.refl _)
   | (with_reducible exact LeO.none _)
   | (with_reducible refine LeO.ite ?_ ?_)
   | (with_reducible refine LeO.bind ?_ (fun _ => ?_))
   | exact message_Read.mono _ _
   | exact LeO.none _
   | refine LeO.ite ?_ ?_
   | refine LeO.bind ?_ (fun _ => ?_)
set_option maxHeartbeats 8000000 in
set_option maxRecDepth 100000 in
theorem serinettelaw21_awake.calls (k : Nat)  (r : Bool) (w : World) (h : serinettelaw21_awake.f k  = some r) :
  Calls Try.prog 8 #[] w fun e w' => e = .returned (.bool r) ∧ Below w.heap.size w w' := by
 have hu37 := Try.underlying37
 have HB := Aside0.mk (Below.refl w.heap.size w)
 have H : ((message_Read.f k (([144, 60, 100, 62, 0] : List Int))).bind fun t104 => (if (t104.length : Int) = 2 then (if 0 < (t104.length : Int) then (if ((((rd_T37 t104 0).f0).toList) == ([111, 110] : List UInt8) && (((rd_T37 t104 0).f1) == 0 && (((rd_T37 t104 0).f2) == 60 && (((rd_T37 t104 0).f3) == 100)))) = true then (if 1 < (t104.length : Int) then (some ((((rd_T37 t104 1).f0).toList) == ([111, 102, 102] : List UInt8) && (((rd_T37 t104 1).f1) == 0 && (((rd_T37 t104 1).f2) == 62 && (((rd_T37 t104 1).f3) == 64))))) else (none)) else (some false)) else (none)) else (some false))) = some r := h
 clear h
 obtain ⟨y101, hy101⟩ : ∃ y_ : List Int, y_ = (([144, 60, 100, 62, 0] : List Int)) := ⟨_, rfl⟩
 replace H : ((message_Read.f k y101).bind fun t104 => (if (t104.length : Int) = 2 then (if 0 < (t104.length : Int) then (if ((((rd_T37 t104 0).f0).toList) == ([111, 110] : List UInt8) && (((rd_T37 t104 0).f1) == 0 && (((rd_T37 t104 0).f2) == 60 && (((rd_T37 t104 0).f3) == 100)))) = true then (if 1 < (t104.length : Int) then (some ((((rd_T37 t104 1).f0).toList) == ([111, 102, 102] : List UInt8) && (((rd_T37 t104 1).f1) == 0 && (((rd_T37 t104 1).f2) == 62 && (((rd_T37 t104 1).f3) == 64))))) else (none)) else (some false)) else (none)) else (some false))) = some r := by first | (rw [hy101]; with_reducible exact H) | (have H2_ := (Option.bind_some _ _).symm.trans H; rw [hy101]; with_reducible exact H2_) | (have H2_ := (Option.bind_some _ _).symm.trans H; with_reducible exact H2_) | with_reducible exact H | (rw [hy101]; exact H) | exact H
 have Ny101 := Aside0.mk hy101
 clear hy101
 replace H := Option.bind_eq_some_iff.mp H
 obtain ⟨t104, A10, H⟩ := H
 (try dsimp only at H)
 have A1 := Aside0.mk A10
 clear A10
 by_cases c2 : (t104.length : Int) = 2
 ·
  rw [if_pos c2] at H
  have c2b0 : ((t104.length : Int) == 2) = true := beq_iff_eq.mpr c2
  have c2b1 : ((t104.length : Int) != 2) = false := bne_eq_false_iff_eq.mpr c2
  clear c2
  by_cases c3 : 0 < (t104.length : Int)
  ·
   rw [if_pos c3] at H
   have c3b0 : decide (0 < (t104.length : Int)) = true := decide_eq_true c3
   have c3b1 : decide (0 < t104.length) = true := decide_eq_true (by omega)
   clear c3
   by_cases c4 : ((((rd_T37 t104 0).f0).toList) == ([111, 110] : List UInt8) && (((rd_T37 t104 0).f1) == 0 && (((rd_T37 t104 0).f2) == 60 && (((rd_T37 t104 0).f3) == 100)))) = true
   ·
    rw [if_pos c4] at H
    have c4b0 : ((((rd_T37 t104 0).f0).toList) == ([111, 110] : List UInt8) && (((rd_T37 t104 0).f1) == 0 && (((rd_T37 t104 0).f2) == 60 && (((rd_T37 t104 0).f3) == 100)))) = true := c4
    (try (have c4b1 : decide ((((rd_T37 t104 0).f0).toList) = ([111, 110] : List UInt8) && (((rd_T37 t104 0).f1) == 0 && (((rd_T37 t104 0).f2) == 60 && (((rd_T37 t104 0).f3) == 100)))) = true := by simpa using c4))
    (try (have c4b2 : ((((rd_T37 t104 0).f0).toList) == ([111, 110] : List UInt8) && (((rd_T37 t104 0).f1) == 0 && (((rd_T37 t104 0).f2) == 60 && (((rd_T37 t104 0).f3) == 100)))) = true := by simpa using c4))
    clear c4
    by_cases c5 : 1 < (t104.length : Int)
    ·
     rw [if_pos c5] at H
     have c5b0 : decide (1 < (t104.length : Int)) = true := decide_eq_true c5
     have c5b1 : decide (1 < t104.length) = true := decide_eq_true (by omega)
     clear c5
     obtain rfl := Option.some.inj H
     go_enter Try.func8, Try.ntmps8
     go_wp2_with (first | ((with_reducible refine gate_dst (N := 2) rfl ?_); refine Kd.R_lit (Kd.int .u8) _ 5 ?hg (N := 2) ?hd (xs := ([144, 60, 100, 62, 0] : List Int)) (inner := [.int .u8 144, .int .u8 60, .int .u8 100, .int .u8 62, .int .u8 0]) (ok := fun _ => True) (okp := fun _ => True) ?hr ?hp (fun _ hk => hk) trivial (Below.refl _ _) (Nat.le_refl _) (by simp) ?_; (case hd => rfl); (case hg => rfl); (case hr => first | (go_simp; done) | (go_simp; rfl)); (case hp => exact (Reps.one (show Kd.M (Kd.int .u8) _ _ _ 144 [.int .u8 144] from rfl) (Reps.one (show Kd.M (Kd.int .u8) _ _ _ 60 [.int .u8 60] from rfl) (Reps.one (show Kd.M (Kd.int .u8) _ _ _ 100 [.int .u8 100] from rfl) (Reps.one (show Kd.M (Kd.int .u8) _ _ _ 62 [.int .u8 62] from rfl) (Reps.one (show Kd.M (Kd.int .u8) _ _ _ 0 [.int .u8 0] from rfl) (Reps.none _ _))))))); intro v102 w6 ho7 hb hg_ hnew_; clear hg_ hnew_; (first | rw [← Ny101.out] at ho7 | (simp only [Int.reduceToNat] at ho7; rw [← Ny101.out] at ho7)); have HO103 := Aside0.mk (Kd.R_lower ho7 (below_size (bl HB.out))); replace HB := hs HB hb; clear hb ho7; obtain ⟨Ao8, co8, eo8⟩ := Kd.R_slice HO103.out; subst eo8) | ((with_reducible refine gate_callee (f := 10) rfl ?_); refine goesL_ (some 3) rfl rfl Try.func10 (by kernel_rfl) rfl #[.slice Ao8 y101.length co8] rfl (by (try simp only [mp]); first | done | rfl | (simp only [ld]; rfl)) ?_; (with_reducible refine (message_Read.calls k _ _ y101 t104 _ ?side1 ?side2 A1.out).mono ?_); (case side1 => repeat (first | exact (Kd.R_reads' HO103.out).2.2 | (with_reducible refine Kd.C_alloc ?_ _) | (with_reducible refine Kd.C_drewN ?_ _) | (with_reducible refine Kd.C_drew ?_))); (case side2 => exact (Kd.R_reads' HO103.out).2.1); rintro e w9 ⟨v105, rfl, ho0, hb⟩; refine ⟨_, rfl, ?_⟩; have HO106 := Aside0.mk (Kd.R_lower ho0 (below_size (bl HB.out))); replace HO103 := Aside0.mk (Kd.R_below (by (with_reducible repeat (first | apply Kd.R_alloc | apply Kd.R_drewN | apply Kd.R_drew)); exact HO103.out) hb); replace HB := hs HB hb; (try clear hb); (try clear hb2); (try clear hk); (try clear hi); (try clear ho0); obtain ⟨Ao10, co10, eo10⟩ := Kd.R_slice HO106.out; subst eo10; have p107 : 0 ≤ (0 : Int) := (by omega); have q107 : 0 < (t104.length : Int) := of_decide_eq_true (by first | (with_reducible assumption) | assumption); obtain ⟨ad107, e107, hx107_0, hx107_1, hx107_2, hx107_3⟩ := at_T37 (Kd.R_reads' HO106.out).2.2 0 p107 q107; cases e107; have qi107 : (0 < t104.length) = True := eq_true (by omega); (try rw [show ((0 : Int)).toNat = 0 from rfl] at hx107_0); (try rw [show 0 * 4 = 0 from rfl] at hx107_0); (try rw [Addr.add_zero'] at hx107_0); (try rw [show ((0 : Int)).toNat = 0 from rfl] at hx107_1); (try rw [show 0 * 4 = 0 from rfl] at hx107_1); (try rw [Addr.add_zero'] at hx107_1); (try rw [show ((0 : Int)).toNat = 0 from rfl] at hx107_2); (try rw [show 0 * 4 = 0 from rfl] at hx107_2); (try rw [Addr.add_zero'] at hx107_2); (try rw [show ((0 : Int)).toNat = 0 from rfl] at hx107_3); (try rw [show 0 * 4 = 0 from rfl] at hx107_3); (try rw [Addr.add_zero'] at hx107_3); replace p107 := eq_true p107; replace q107 := eq_true q107; have p108 : 0 ≤ (1 : Int) := (by omega); have q108 : 1 < (t104.length : Int) := of_decide_eq_true (by first | (with_reducible assumption) | assumption); obtain ⟨ad108, e108, hx108_0, hx108_1, hx108_2, hx108_3⟩ := at_T37 (Kd.R_reads' HO106.out).2.2 1 p108 q108; obtain rfl : ad107 = ad108 := (by injection e108); (try simp only [show (1 : Int).toNat = 1 from rfl, Nat.reduceMul, Nat.reduceEqDiff, Go.Addr.add, ↓reduceIte] at hx108_0); (try simp only [show (1 : Int).toNat = 1 from rfl, Nat.reduceMul, Nat.reduceEqDiff, Go.Addr.add, ↓reduceIte] at hx108_1); (try simp only [show (1 : Int).toNat = 1 from rfl, Nat.reduceMul, Nat.reduceEqDiff, Go.Addr.add, ↓reduceIte] at hx108_2); (try simp only [show (1 : Int).toNat = 1 from rfl, Nat.reduceMul, Nat.reduceEqDiff, Go.Addr.add, ↓reduceIte] at hx108_3); have qi108 : (1 < t104.length) = True := eq_true (by omega); (try rw [show ((1 : Int)).toNat = 1 from rfl] at hx108_0); (try rw [show 1 * 4 = 4 from rfl] at hx108_0); (try rw [show ((1 : Int)).toNat = 1 from rfl] at hx108_1); (try rw [show 1 * 4 = 4 from rfl] at hx108_1); (try rw [show ((1 : Int)).toNat = 1 from rfl] at hx108_2); (try rw [show 1 * 4 = 4 from rfl] at hx108_2); (try rw [show ((1 : Int)).toNat = 1 from rfl] at hx108_3); (try rw [show 1 * 4 = 4 from rfl] at hx108_3); replace p108 := eq_true p108; replace q108 := eq_true q108))
     go_ret
     exact ⟨by first | rfl | (simp [errW_none, errW_some] <;> rfl) | (simp [*, errW_none, errW_some] <;> rfl), (bl HB.out)⟩
    ·
     rw [if_neg c5] at H
     exact absurd H (by simp)
   ·
    rw [if_neg c4] at H
    have c4b0 : ((((rd_T37 t104 0).f0).toList) == ([111, 110] : List UInt8) && (((rd_T37 t104 0).f1) == 0 && (((rd_T37 t104 0).f2) == 60 && (((rd_T37 t104 0).f3) == 100)))) = false := by simpa using c4
    (try (have c4b1 : decide ((((rd_T37 t104 0).f0).toList) = ([111, 110] : List UInt8) && (((rd_T37 t104 0).f1) == 0 && (((rd_T37 t104 0).f2) == 60 && (((rd_T37 t104 0).f3) == 100)))) = false := by simpa using c4))
    (try (have c4b2 : ((((rd_T37 t104 0).f0).toList) == ([111, 110] : List UInt8) && (((rd_T37 t104 0).f1) == 0 && (((rd_T37 t104 0).f2) == 60 && (((rd_T37 t104 0).f3) == 100)))) = false := by simpa using c4))
    (try (have c4b3 : ¬ ((((rd_T37 t104 0).f0).toList) = ([111, 110] : List UInt8) && (((rd_T37 t104 0).f1) == 0 && (((rd_T37 t104 0).f2) == 60 && (((rd_T37 t104 0).f3) == 100)))) := by simpa using c4))
    clear c4
    obtain rfl := Option.some.inj H
    go_enter Try.func8, Try.ntmps8
    go_wp2_with (first | ((with_reducible refine gate_dst (N := 2) rfl ?_); refine Kd.R_lit (Kd.int .u8) _ 5 ?hg (N := 2) ?hd (xs := ([144, 60, 100, 62, 0] : List Int)) (inner := [.int .u8 144, .int .u8 60, .int .u8 100, .int .u8 62, .int .u8 0]) (ok := fun _ => True) (okp := fun _ => True) ?hr ?hp (fun _ hk => hk) trivial (Below.refl _ _) (Nat.le_refl _) (by simp) ?_; (case hd => rfl); (case hg => rfl); (case hr => first | (go_simp; done) | (go_simp; rfl)); (case hp => exact (Reps.one (show Kd.M (Kd.int .u8) _ _ _ 144 [.int .u8 144] from rfl) (Reps.one (show Kd.M (Kd.int .u8) _ _ _ 60 [.int .u8 60] from rfl) (Reps.one (show Kd.M (Kd.int .u8) _ _ _ 100 [.int .u8 100] from rfl) (Reps.one (show Kd.M (Kd.int .u8) _ _ _ 62 [.int .u8 62] from rfl) (Reps.one (show Kd.M (Kd.int .u8) _ _ _ 0 [.int .u8 0] from rfl) (Reps.none _ _))))))); intro v102 w11 ho12 hb hg_ hnew_; clear hg_ hnew_; (first | rw [← Ny101.out] at ho12 | (simp only [Int.reduceToNat] at ho12; rw [← Ny101.out] at ho12)); have HO103 := Aside0.mk (Kd.R_lower ho12 (below_size (bl HB.out))); replace HB := hs HB hb; clear hb ho12; obtain ⟨Ao13, co13, eo13⟩ := Kd.R_slice HO103.out; subst eo13) | ((with_reducible refine gate_callee (f := 10) rfl ?_); refine goesL_ (some 3) rfl rfl Try.func10 (by kernel_rfl) rfl #[.slice Ao13 y101.length co13] rfl (by (try simp only [mp]); first | done | rfl | (simp only [ld]; rfl)) ?_; (with_reducible refine (message_Read.calls k _ _ y101 t104 _ ?side1 ?side2 A1.out).mono ?_); (case side1 => repeat (first | exact (Kd.R_reads' HO103.out).2.2 | (with_reducible refine Kd.C_alloc ?_ _) | (with_reducible refine Kd.C_drewN ?_ _) | (with_reducible refine Kd.C_drew ?_))); (case side2 => exact (Kd.R_reads' HO103.out).2.1); rintro e w14 ⟨v105, rfl, ho0, hb⟩; refine ⟨_, rfl, ?_⟩; have HO106 := Aside0.mk (Kd.R_lower ho0 (below_size (bl HB.out))); replace HO103 := Aside0.mk (Kd.R_below (by (with_reducible repeat (first | apply Kd.R_alloc | apply Kd.R_drewN | apply Kd.R_drew)); exact HO103.out) hb); replace HB := hs HB hb; (try clear hb); (try clear hb2); (try clear hk); (try clear hi); (try clear ho0); obtain ⟨Ao15, co15, eo15⟩ := Kd.R_slice HO106.out; subst eo15; have p107 : 0 ≤ (0 : Int) := (by omega); have q107 : 0 < (t104.length : Int) := of_decide_eq_true (by first | (with_reducible assumption) | assumption); obtain ⟨ad107, e107, hx107_0, hx107_1, hx107_2, hx107_3⟩ := at_T37 (Kd.R_reads' HO106.out).2.2 0 p107 q107; cases e107; have qi107 : (0 < t104.length) = True := eq_true (by omega); (try rw [show ((0 : Int)).toNat = 0 from rfl] at hx107_0); (try rw [show 0 * 4 = 0 from rfl] at hx107_0); (try rw [Addr.add_zero'] at hx107_0); (try rw [show ((0 : Int)).toNat = 0 from rfl] at hx107_1); (try rw [show 0 * 4 = 0 from rfl] at hx107_1); (try rw [Addr.add_zero'] at hx107_1); (try rw [show ((0 : Int)).toNat = 0 from rfl] at hx107_2); (try rw [show 0 * 4 = 0 from rfl] at hx107_2); (try rw [Addr.add_zero'] at hx107_2); (try rw [show ((0 : Int)).toNat = 0 from rfl] at hx107_3); (try rw [show 0 * 4 = 0 from rfl] at hx107_3); (try rw [Addr.add_zero'] at hx107_3); replace p107 := eq_true p107; replace q107 := eq_true q107))
    go_ret
    exact ⟨by first | rfl | (simp [errW_none, errW_some] <;> rfl) | (simp [*, errW_none, errW_some] <;> rfl), (bl HB.out)⟩
  ·
   rw [if_neg c3] at H
   exact absurd H (by simp)
 ·
  rw [if_neg c2] at H
  have c2b0 : ((t104.length : Int) == 2) = false := beq_eq_false_iff_ne.mpr c2
  have c2b1 : ((t104.length : Int) != 2) = true := bne_iff_ne.mpr c2
  obtain rfl := Option.some.inj H
  go_enter Try.func8, Try.ntmps8
  go_wp2_with (first | ((with_reducible refine gate_dst (N := 2) rfl ?_); refine Kd.R_lit (Kd.int .u8) _ 5 ?hg (N := 2) ?hd (xs := ([144, 60, 100, 62, 0] : List Int)) (inner := [.int .u8 144, .int .u8 60, .int .u8 100, .int .u8 62, .int .u8 0]) (ok := fun _ => True) (okp := fun _ => True) ?hr ?hp (fun _ hk => hk) trivial (Below.refl _ _) (Nat.le_refl _) (by simp) ?_; (case hd => rfl); (case hg => rfl); (case hr => first | (go_simp; done) | (go_simp; rfl)); (case hp => exact (Reps.one (show Kd.M (Kd.int .u8) _ _ _ 144 [.int .u8 144] from rfl) (Reps.one (show Kd.M (Kd.int .u8) _ _ _ 60 [.int .u8 60] from rfl) (Reps.one (show Kd.M (Kd.int .u8) _ _ _ 100 [.int .u8 100] from rfl) (Reps.one (show Kd.M (Kd.int .u8) _ _ _ 62 [.int .u8 62] from rfl) (Reps.one (show Kd.M (Kd.int .u8) _ _ _ 0 [.int .u8 0] from rfl) (Reps.none _ _))))))); intro v102 w16 ho17 hb hg_ hnew_; clear hg_ hnew_; (first | rw [← Ny101.out] at ho17 | (simp only [Int.reduceToNat] at ho17; rw [← Ny101.out] at ho17)); have HO103 := Aside0.mk (Kd.R_lower ho17 (below_size (bl HB.out))); replace HB := hs HB hb; clear hb ho17; obtain ⟨Ao18, co18, eo18⟩ := Kd.R_slice HO103.out; subst eo18) | ((with_reducible refine gate_callee (f := 10) rfl ?_); refine goesL_ (some 3) rfl rfl Try.func10 (by kernel_rfl) rfl #[.slice Ao18 y101.length co18] rfl (by (try simp only [mp]); first | done | rfl | (simp only [ld]; rfl)) ?_; (with_reducible refine (message_Read.calls k _ _ y101 t104 _ ?side1 ?side2 A1.out).mono ?_); (case side1 => repeat (first | exact (Kd.R_reads' HO103.out).2.2 | (with_reducible refine Kd.C_alloc ?_ _) | (with_reducible refine Kd.C_drewN ?_ _) | (with_reducible refine Kd.C_drew ?_))); (case side2 => exact (Kd.R_reads' HO103.out).2.1); rintro e w19 ⟨v105, rfl, ho0, hb⟩; refine ⟨_, rfl, ?_⟩; have HO106 := Aside0.mk (Kd.R_lower ho0 (below_size (bl HB.out))); replace HO103 := Aside0.mk (Kd.R_below (by (with_reducible repeat (first | apply Kd.R_alloc | apply Kd.R_drewN | apply Kd.R_drew)); exact HO103.out) hb); replace HB := hs HB hb; (try clear hb); (try clear hb2); (try clear hk); (try clear hi); (try clear ho0); obtain ⟨Ao20, co20, eo20⟩ := Kd.R_slice HO106.out; subst eo20))
  go_ret
  exact ⟨by first | rfl | (simp [errW_none, errW_some] <;> rfl) | (simp [*, errW_none, errW_some] <;> rfl), (bl HB.out)⟩
mutual
def message_Events.l0 : Nat → List (S48) → List (S37) → Int → List (S48) → Int → Int → Option ((List (S77)) × Int)
 | 0, _, _, _, _, _, _ => none
 | k + 1, x0, x1, x2, x17, x18, x19 => if x19 < x18 then (if 0 ≤ x19 then (if x19 < (x17.length : Int) then ((message_validMap.f k ((rd_T48 x17 x19).f0) ((rd_T48 x17 x19).f1) ((rd_T48 x17 x19).f2) ((rd_T48 x17 x19).f3) ((rd_T48 x17 x19).f4.f0) ((rd_T48 x17 x19).f4.f1) ((rd_T48 x17 x19).f5.f0) ((rd_T48 x17 x19).f5.f1) ((rd_T48 x17 x19).f6)).bind fun t342 => (if t342 = true then (message_Events.l0 k x0 x1 x2 x17 x18 (wrap64 (x19 + 1))) else (some (([] : List (S77)), 2)))) else (none)) else (none)) else (message_Events.l1 k x0 x2 ([] : List (S77)) x1 (x1.length : Int) 0)
def message_Events.l1 : Nat → List (S48) → Int → List (S77) → List (S37) → Int → Int → Option ((List (S77)) × Int)
 | 0, _, _, _, _, _, _ => none
 | k + 1, x0, x2, x10, x27, x28, x29 => if x29 < x28 then (if 0 ≤ x29 then (if x29 < (x27.length : Int) then (message_Events.l2 k x0 x2 x10 x27 x28 x29 x0 (x0.length : Int) 0 ((rd_T37 x27 x29).f0) ((rd_T37 x27 x29).f1) ((rd_T37 x27 x29).f2) ((rd_T37 x27 x29).f3)) else (none)) else (none)) else (some (x10, 0))
def message_Events.l2 : Nat → List (S48) → Int → List (S77) → List (S37) → Int → Int → List (S48) → Int → Int → ByteArray → Int → Int → Int → Option ((List (S77)) × Int)
 | 0, _, _, _, _, _, _, _, _, _, _, _, _, _ => none
 | k + 1, x0, x2, x10, x27, x28, x29, x33, x34, x35, x345000, x345001, x345002, x345003 => if x35 < x34 then (if 0 ≤ x35 then (if x35 < (x33.length : Int) then ((message_Map_fits.f ((rd_T48 x33 x35).f0) ((rd_T48 x33 x35).f1) ((rd_T48 x33 x35).f2) ((rd_T48 x33 x35).f3) ((rd_T48 x33 x35).f4.f0) ((rd_T48 x33 x35).f4.f1) ((rd_T48 x33 x35).f5.f0) ((rd_T48 x33 x35).f5.f1) ((rd_T48 x33 x35).f6) x345000 x345001 x345002 x345003).bind fun t347 => (if t347 = true then ((message_Map_value.f ((rd_T48 x33 x35).f0) ((rd_T48 x33 x35).f1) ((rd_T48 x33 x35).f2) ((rd_T48 x33 x35).f3) ((rd_T48 x33 x35).f4.f0) ((rd_T48 x33 x35).f4.f1) ((rd_T48 x33 x35).f5.f0) ((rd_T48 x33 x35).f5.f1) ((rd_T48 x33 x35).f6) x345000 x345001 x345002 x345003).bind fun bt348 => (if bt348.2.2 = true then (if x10.length < 3518437208883 then (message_Events.l2 k x0 x2 (x10 ++ [(⟨x2, (rd_T48 x33 x35).f3, (⟨bt348.1, bt348.2.1⟩ : S46)⟩ : S77)]) x27 x28 x29 x33 x34 (wrap64 (x35 + 1)) x345000 x345001 x345002 x345003) else (none)) else (message_Events.l2 k x0 x2 x10 x27 x28 x29 x33 x34 (wrap64 (x35 + 1)) x345000 x345001 x345002 x345003))) else (message_Events.l2 k x0 x2 x10 x27 x28 x29 x33 x34 (wrap64 (x35 + 1)) x345000 x345001 x345002 x345003))) else (none)) else (none)) else (message_Events.l1 k x0 x2 x10 x27 x28 (wrap64 (x29 + 1)))
end
def message_Events.f (k : Nat) (l0 : List (S48)) (l1 : List (S37)) (a2 : Int) : Option ((List (S77)) × Int) := message_Events.l0 k l0 l1 a2 l0 (l0.length : Int) 0
theorem message_Events.mono_l : ∀ k, (∀ y0 y1 y2 y3 y4 y5, LeO (message_Events.l0 k y0 y1 y2 y3 y4 y5) (message_Events.l0 (k + 1) y0 y1 y2 y3 y4 y5)) ∧ (∀ y0 y1 y2 y3 y4 y5, LeO (message_Events.l1 k y0 y1 y2 y3 y4 y5) (message_Events.l1 (k + 1) y0 y1 y2 y3 y4 y5)) ∧ (∀ y0 y1 y2 y3 y4 y5 y6 y7 y8 y9 y10 y11 y12, LeO (message_Events.l2 k y0 y1 y2 y3 y4 y5 y6 y7 y8 y9 y10 y11 y12) (message_Events.l2 (k + 1) y0 y1 y2 y3 y4 y5 y6 y7 y8 y9 y10 y11 y12))
 | 0 => ⟨fun _ _ _ _ _ _ r h => by simp [message_Events.l0] at h, fun _ _ _ _ _ _ r h => by simp [message_Events.l1] at h, fun _ _ _ _ _ _ _ _ _ _ _ _ _ r h => by simp [message_Events.l2] at h⟩
 | k + 1 => by
  obtain ⟨ih0, ih1, ih2⟩ := message_Events.mono_l k
  refine ⟨?_, ?_, ?_⟩
  ·
   intro y0 y1 y2 y3 y4 y5
   unfold message_Events.l0
   repeat' first
   | (with_reducible exact ih0 _ _ _ _ _ _)
   | (with_reducible exact ih1 _ _ _ _ _ _)
   | (with_reducible exact ih2 _ _ _ _ _ _ _ _ _ _ _ _ _)
   | (with_reducible exact message_validMap.mono _ _ _ _ _ _ _ _ _ _)
   | (with_reducible exact LeO.refl _)
   | (with_reducible exact LeO.none _)
   | (with_reducible refine LeO.ite ?_ ?_)
   | (with_reducible refine LeO.bind ?_ (fun _ => ?_))
   | exact ih0 _ _ _ _ _ _
   | exact ih1 _ _ _ _ _ _
   | exact ih2 _ _ _ _ _ _ _ _ _ _ _ _ _
   | exact message_validMap.mono _ _ _ _ _ _ _ _ _ _
   | exact LeO.none _
   | refine LeO.ite ?_ ?_
   | refine LeO.bind ?_ (fun _ => ?_)
  ·
   intro y0 y1 y2 y3 y4 y5
   unfold message_Events.l1
   repeat' first
   | (with_reducible exact ih0 _ _ _ _ _ _)
   | (with_reducible exact ih1 _ _ _ _ _ _)
   | (with_reducible exact ih2 _ _ _ _ _ _ _ _ _ _ _ _ _)
   | (with_reducible exact message_validMap.mono _ _ _ _ _ _ _ _ _ _)
   | (with_reducible exact LeO.refl _)
   | (with_reducible exact LeO.none _)
   | (with_reducible refine LeO.ite ?_ ?_)
   | (with_reducible refine LeO.bind ?_ (fun _ => ?_))
   | exact ih0 _ _ _ _ _ _
   | exact ih1 _ _ _ _ _ _
   | exact ih2 _ _ _ _ _ _ _ _ _ _ _ _ _
   | exact message_validMap.mono _ _ _ _ _ _ _ _ _ _
   | exact LeO.none _
   | refine LeO.ite ?_ ?_
   | refine LeO.bind ?_ (fun _ => ?_)
  ·
   intro y0 y1 y2 y3 y4 y5 y6 y7 y8 y9 y10 y11 y12
   unfold message_Events.l2
   repeat' first
   | (with_reducible exact ih0 _ _ _ _ _ _)
   | (with_reducible exact ih1 _ _ _ _ _ _)
   | (with_reducible exact ih2 _ _ _ _ _ _ _ _ _ _ _ _ _)
   | (with_reducible exact message_validMap.mono _ _ _ _ _ _ _ _ _ _)
   | (with_reducible exact LeO.refl _)
   | (with_reducible exact LeO.none _)
   | (with_reducible refine LeO.ite ?_ ?_)
   | (with_reducible refine LeO.bind ?_ (fun _ => ?_))
   | exact ih0 _ _ _ _ _ _
   | exact ih1 _ _ _ _ _ _
   | exact ih2 _ _ _ _ _ _ _ _ _ _ _ _ _
   | exact message_validMap.mono _ _ _ _ _ _ _ _ _ _
   | exact LeO.none _
   | refine LeO.ite ?_ ?_
   | refine LeO.bind ?_ (fun _ => ?_)
theorem message_Events.mono : ∀ a0 a1 a2 k, LeO (message_Events.f k a0 a1 a2) (message_Events.f (k + 1) a0 a1 a2) := by
 intro a0 a1 a2 k
 obtain ⟨ih0, ih1, ih2⟩ := message_Events.mono_l k
 unfold message_Events.f
 repeat' first
   | (with_reducible exact ih0 _ _ _ _ _ _)
   | (with_reducible exact ih1 _ _ _ _ _ _)
   | (with_reducible exact ih2 _ _ _ _ _ _ _ _ _ _ _ _ _)
   | (with_reducible exact message_validMap.mono _ _ _ _ _ _ _ _ _ _)
   | (with_reducible exact LeO.refl _)
   | (with_reducible exact LeO.none _)
   | (with_reducible refine LeO.ite ?_ ?_)
   | (with_reducible refine LeO.bind ?_ (fun _ => ?_))
   | exact ih0 _ _ _ _ _ _
   | exact ih1 _ _ _ _ _ _
   | exact ih2 _ _ _ _ _ _ _ _ _ _ _ _ _
   | exact message_validMap.mono _ _ _ _ _ _ _ _ _ _
   | exact LeO.none _
   | refine LeO.ite ?_ ?_
   | refine LeO.bind ?_ (fun _ => ?_)
set_option maxHeartbeats 8000000 in
set_option maxRecDepth 100000 in
theorem message_Events.calls (k : Nat) (A0 : Option Addr) (c0 : Nat) (l0 : List (S48)) (A1 : Option Addr) (c1 : Nat) (l1 : List (S37)) (a2 : Int) (r1 : List (S77)) (r2 : Int) (w : World) (hr0 : Kd.C k48 w A0 l0.length l0) (hc0 : l0.length ≤ c0) (hr1 : Kd.C k37 w A1 l1.length l1) (hc1 : l1.length ≤ c1) (h : message_Events.f k l0 l1 a2 = some (r1, r2)) :
  Calls Try.prog 22 #[.slice A0 l0.length c0, .slice A1 l1.length c1, .int .i64 a2] w fun e w' => ∃ v0_ : Value, e = .returned (.tuple #[v0_, .int .i64 r2]) ∧ Kd.R k77 77 w' w.heap.size (fun _ => True) v0_ r1 ∧ Below w.heap.size w w' := by
 have hu48 := Try.underlying48
 have hu37 := Try.underlying37
 have hu46 := Try.underlying46
 have hu77 := Try.underlying77
 have HR0 := Aside0.mk hr0
 have HC0 := Aside0.mk hc0
 clear hr0 hc0
 have HR1 := Aside0.mk hr1
 have HC1 := Aside0.mk hc1
 clear hr1 hc1
 have HB := Aside0.mk (Below.refl w.heap.size w)
 have H : (message_Events.l0 k l0 l1 a2 l0 (l0.length : Int) 0) = some (r1, r2) := h
 clear h
 have H' := Aside0.mk H
 clear H
 go_enter Try.func22, Try.ntmps22
 go_wp2
 go_loopg [19] k (fun kq v19 w' => ∃ (x19_1 : Int), v19 = .int .i64 x19_1 ∧ Aside0 (message_Events.l0 kq l0 l1 a2 l0 (l0.length : Int) x19_1 = some (r1, r2)) ∧ Aside0 (kq ≤ k) ∧ Aside0 (Below w.heap.size w w'))
 case atStart => exact ⟨(0), (by first | rfl | (simp; done) | (simp [*]; done)), H', ⟨Nat.le_refl _⟩, ⟨(bl HB.out)⟩⟩
 case round =>
  clear H'
  (try clear c1); (try clear c2); (try clear p2)
  obtain ⟨x19_1, rfl, HA, HK1, HB⟩ := hrel
  cases gk with
  | zero => exact absurd HA.out (by simp [message_Events.l0])
  | succ k1 =>
   have H := HA.out
   clear HA
   simp only [message_Events.l0] at H
   by_cases c4 : x19_1 < (l0.length : Int)
   ·
    rw [if_pos c4] at H
    have c4b0 : decide (x19_1 < (l0.length : Int)) = true := decide_eq_true c4
    clear c4
    by_cases c5 : 0 ≤ x19_1
    ·
     rw [if_pos c5] at H
     have c5b0 : decide (0 ≤ x19_1) = true := decide_eq_true c5
     clear c5
     by_cases c6 : x19_1 < (l0.length : Int)
     ·
      rw [if_pos c6] at H
      have c6b0 : decide (x19_1 < (l0.length : Int)) = true := decide_eq_true c6
      clear c6
      replace H := Option.bind_eq_some_iff.mp H
      obtain ⟨t342, A70, H⟩ := H
      (try dsimp only at H)
      have A7 := Aside0.mk A70
      clear A70
      by_cases c8 : t342 = true
      ·
       subst c8
       rw [if_pos rfl] at H
       have H' := Aside0.mk H
       clear H
       have p340 : 0 ≤ (x19_1 : Int) := of_decide_eq_true (by first | (with_reducible assumption) | assumption)
       have q340 : x19_1 < (l0.length : Int) := of_decide_eq_true (by first | (with_reducible assumption) | assumption)
       obtain ⟨ad340, e340, hx340_0, hx340_1, hx340_2, hx340_3, hx340_4, hx340_5, hx340_6, hx340_7, hx340_8⟩ := at_T48 HR0.out x19_1 p340 q340
       cases e340
       replace hx340_0 := (HB.out.cell (World.block_lt_of_cell? w _ hx340_0)).trans hx340_0
       replace hx340_1 := (HB.out.cell (World.block_lt_of_cell? w _ hx340_1)).trans hx340_1
       replace hx340_2 := (HB.out.cell (World.block_lt_of_cell? w _ hx340_2)).trans hx340_2
       replace hx340_3 := (HB.out.cell (World.block_lt_of_cell? w _ hx340_3)).trans hx340_3
       replace hx340_4 := (HB.out.cell (World.block_lt_of_cell? w _ hx340_4)).trans hx340_4
       replace hx340_5 := (HB.out.cell (World.block_lt_of_cell? w _ hx340_5)).trans hx340_5
       replace hx340_6 := (HB.out.cell (World.block_lt_of_cell? w _ hx340_6)).trans hx340_6
       replace hx340_7 := (HB.out.cell (World.block_lt_of_cell? w _ hx340_7)).trans hx340_7
       replace hx340_8 := (HB.out.cell (World.block_lt_of_cell? w _ hx340_8)).trans hx340_8
       replace p340 := eq_true p340
       replace q340 := eq_true q340
       go_wp2_with (first | ((with_reducible refine gate_dst (N := 9) rfl ?_); refine box_event ?hg (N := 9) ?hd (cs := #[.string (⟨#[]⟩ : ByteArray), .int .i64 0, .int .i64 0, .string (⟨#[]⟩ : ByteArray), .int .i64 0, .int .i64 0, .int .i64 0, .int .i64 0, .bool false]) (t := 48) ?hr ?_; (case hd => rfl); (case hg => rfl); (case hr => first | (go_simp; done) | (go_simp; rfl)); intro gb341 hg w9 hbox hb; have BK341 := Aside0.mk (hbox); have GW341 := hz_ hg HB; have GE341 := hz_ hg HB; replace HB := hs HB hb; clear hb hbox hg; obtain ⟨hcz10_0, hcz10_1, hcz10_2, hcz10_3, hcz10_4, hcz10_5, hcz10_6, hcz10_7, hcz10_8⟩ := bc9 BK341.out; obtain ⟨hfz10_0, hfz10_1, hfz10_2, hfz10_3, hfz10_4, hfz10_5, hfz10_6, hfz10_7, hfz10_8⟩ := bf9 BK341.out) | ((with_reducible refine gate_callee (f := 34) rfl ?_); refine goesL_ (some 24) rfl rfl Try.func34 (by kernel_rfl) rfl #[.agg #[.string ((rd_T48 l0 x19_1).f0), .int .i64 ((rd_T48 l0 x19_1).f1), .int .i64 ((rd_T48 l0 x19_1).f2), .string ((rd_T48 l0 x19_1).f3), .int .i64 ((rd_T48 l0 x19_1).f4.f0), .int .i64 ((rd_T48 l0 x19_1).f4.f1), .int .i64 ((rd_T48 l0 x19_1).f5.f0), .int .i64 ((rd_T48 l0 x19_1).f5.f1), .bool ((rd_T48 l0 x19_1).f6)]] rfl (by (try simp only [mp]); first | done | rfl | (simp only [ld]; rfl)) ?_; (with_reducible refine (message_validMap.calls k1 ((rd_T48 l0 x19_1).f0) ((rd_T48 l0 x19_1).f1) ((rd_T48 l0 x19_1).f2) ((rd_T48 l0 x19_1).f3) ((rd_T48 l0 x19_1).f4.f0) ((rd_T48 l0 x19_1).f4.f1) ((rd_T48 l0 x19_1).f5.f0) ((rd_T48 l0 x19_1).f5.f1) ((rd_T48 l0 x19_1).f6) true _ A7.out).mono ?_); rintro e w11 ⟨rfl, hb⟩; refine ⟨_, rfl, ?_⟩; replace BK341 := Aside0.mk (blk_below (g := gb341) (o := .cells #[.string ((rd_T48 l0 x19_1).f0), .int .i64 ((rd_T48 l0 x19_1).f1), .int .i64 ((rd_T48 l0 x19_1).f2), .string ((rd_T48 l0 x19_1).f3), .int .i64 ((rd_T48 l0 x19_1).f4.f0), .int .i64 ((rd_T48 l0 x19_1).f4.f1), .int .i64 ((rd_T48 l0 x19_1).f5.f0), .int .i64 ((rd_T48 l0 x19_1).f5.f1), .bool ((rd_T48 l0 x19_1).f6)] 48 (0, 0)) (by exact rq BK341.out (by rfl)) hb); replace HB := Aside0.mk (below_step (by repeat first | (with_reducible exact HB.out) | refine bl1 ?_ | (with_reducible refine bset ?_ ‹_›) | exact HB.out) hb); (try clear hb); (try clear hb2); (try clear hk); (try clear hi)))
       go_roundg k1
       case measure => have := HK1.out; omega
       case rel => exact ⟨(wrap64 (x19_1 + 1)), (by first | rfl | (simp; done) | (simp [*]; done)), H', ⟨by have := HK1.out; omega⟩, ⟨by repeat first | (with_reducible exact HB.out) | (with_reducible refine bset ?_ ‹_›) | refine bl1 ?_ | exact HB.out⟩⟩
      ·
       replace c8 := Bool.eq_false_iff.mpr c8
       subst c8
       rw [if_neg (show ¬ (false = true) by decide)] at H
       simp only [Option.some.injEq, Prod.mk.injEq] at H
       obtain ⟨rfl, rfl⟩ := H
       have p340 : 0 ≤ (x19_1 : Int) := of_decide_eq_true (by first | (with_reducible assumption) | assumption)
       have q340 : x19_1 < (l0.length : Int) := of_decide_eq_true (by first | (with_reducible assumption) | assumption)
       obtain ⟨ad340, e340, hx340_0, hx340_1, hx340_2, hx340_3, hx340_4, hx340_5, hx340_6, hx340_7, hx340_8⟩ := at_T48 HR0.out x19_1 p340 q340
       cases e340
       replace hx340_0 := (HB.out.cell (World.block_lt_of_cell? w _ hx340_0)).trans hx340_0
       replace hx340_1 := (HB.out.cell (World.block_lt_of_cell? w _ hx340_1)).trans hx340_1
       replace hx340_2 := (HB.out.cell (World.block_lt_of_cell? w _ hx340_2)).trans hx340_2
       replace hx340_3 := (HB.out.cell (World.block_lt_of_cell? w _ hx340_3)).trans hx340_3
       replace hx340_4 := (HB.out.cell (World.block_lt_of_cell? w _ hx340_4)).trans hx340_4
       replace hx340_5 := (HB.out.cell (World.block_lt_of_cell? w _ hx340_5)).trans hx340_5
       replace hx340_6 := (HB.out.cell (World.block_lt_of_cell? w _ hx340_6)).trans hx340_6
       replace hx340_7 := (HB.out.cell (World.block_lt_of_cell? w _ hx340_7)).trans hx340_7
       replace hx340_8 := (HB.out.cell (World.block_lt_of_cell? w _ hx340_8)).trans hx340_8
       replace p340 := eq_true p340
       replace q340 := eq_true q340
       go_wp2_with (first | ((with_reducible refine gate_dst (N := 9) rfl ?_); refine box_event ?hg (N := 9) ?hd (cs := #[.string (⟨#[]⟩ : ByteArray), .int .i64 0, .int .i64 0, .string (⟨#[]⟩ : ByteArray), .int .i64 0, .int .i64 0, .int .i64 0, .int .i64 0, .bool false]) (t := 48) ?hr ?_; (case hd => rfl); (case hg => rfl); (case hr => first | (go_simp; done) | (go_simp; rfl)); intro gb341 hg w12 hbox hb; have BK341 := Aside0.mk (hbox); have GW341 := hz_ hg HB; have GE341 := hz_ hg HB; replace HB := hs HB hb; clear hb hbox hg; obtain ⟨hcz13_0, hcz13_1, hcz13_2, hcz13_3, hcz13_4, hcz13_5, hcz13_6, hcz13_7, hcz13_8⟩ := bc9 BK341.out; obtain ⟨hfz13_0, hfz13_1, hfz13_2, hfz13_3, hfz13_4, hfz13_5, hfz13_6, hfz13_7, hfz13_8⟩ := bf9 BK341.out) | ((with_reducible refine gate_callee (f := 34) rfl ?_); refine goesL_ (some 24) rfl rfl Try.func34 (by kernel_rfl) rfl #[.agg #[.string ((rd_T48 l0 x19_1).f0), .int .i64 ((rd_T48 l0 x19_1).f1), .int .i64 ((rd_T48 l0 x19_1).f2), .string ((rd_T48 l0 x19_1).f3), .int .i64 ((rd_T48 l0 x19_1).f4.f0), .int .i64 ((rd_T48 l0 x19_1).f4.f1), .int .i64 ((rd_T48 l0 x19_1).f5.f0), .int .i64 ((rd_T48 l0 x19_1).f5.f1), .bool ((rd_T48 l0 x19_1).f6)]] rfl (by (try simp only [mp]); first | done | rfl | (simp only [ld]; rfl)) ?_; (with_reducible refine (message_validMap.calls k1 ((rd_T48 l0 x19_1).f0) ((rd_T48 l0 x19_1).f1) ((rd_T48 l0 x19_1).f2) ((rd_T48 l0 x19_1).f3) ((rd_T48 l0 x19_1).f4.f0) ((rd_T48 l0 x19_1).f4.f1) ((rd_T48 l0 x19_1).f5.f0) ((rd_T48 l0 x19_1).f5.f1) ((rd_T48 l0 x19_1).f6) false _ A7.out).mono ?_); rintro e w14 ⟨rfl, hb⟩; refine ⟨_, rfl, ?_⟩; replace BK341 := Aside0.mk (blk_below (g := gb341) (o := .cells #[.string ((rd_T48 l0 x19_1).f0), .int .i64 ((rd_T48 l0 x19_1).f1), .int .i64 ((rd_T48 l0 x19_1).f2), .string ((rd_T48 l0 x19_1).f3), .int .i64 ((rd_T48 l0 x19_1).f4.f0), .int .i64 ((rd_T48 l0 x19_1).f4.f1), .int .i64 ((rd_T48 l0 x19_1).f5.f0), .int .i64 ((rd_T48 l0 x19_1).f5.f1), .bool ((rd_T48 l0 x19_1).f6)] 48 (0, 0)) (by exact rq BK341.out (by rfl)) hb); replace HB := Aside0.mk (below_step (by repeat first | (with_reducible exact HB.out) | refine bl1 ?_ | (with_reducible refine bset ?_ ‹_›) | exact HB.out) hb); (try clear hb); (try clear hb2); (try clear hk); (try clear hi)))
       go_ret2
       exact ⟨_, by first | rfl | (simp [errW_none, errW_some] <;> rfl) | (simp [*, errW_none, errW_some] <;> rfl), by first | exact Kd.R_nil _ _ _ _ _ | exact Kd.N_nil _ _ _ _ _ | exact Kd.V_nil _ _ _ _ _ | exact Kd.Q_nil _ _ _ _ _ | exact Kd.S_nil _ _ _ _ _, by repeat first | (with_reducible exact HB.out) | (with_reducible refine bset ?_ ‹_›) | refine bl1 ?_ | exact HB.out⟩
     ·
      rw [if_neg c6] at H
      exact absurd H (by simp)
    ·
     rw [if_neg c5] at H
     exact absurd H (by simp)
   ·
    rw [if_neg c4] at H
    have c4b0 : decide (x19_1 < (l0.length : Int)) = false := decide_eq_false c4
    clear c4
    have H' := Aside0.mk H
    clear H
    go_wp2
    go_loopg [10, 29] k1 (fun kq v10 v29 w' => ∃ (x10_2 : List (S77)) (x29_2 : Int), v29 = .int .i64 x29_2 ∧ Aside0 (message_Events.l1 kq l0 a2 x10_2 l1 (l1.length : Int) x29_2 = some (r1, r2)) ∧ Aside0 (kq ≤ k1) ∧ Aside0 (Kd.R k77 77 w' w.heap.size (fun _ => True) v10 x10_2) ∧ Aside0 (Below w.heap.size w w'))
    case atStart => exact ⟨(([] : List (S77))), (0), (by first | rfl | (simp; done) | (simp [*]; done)), H', ⟨Nat.le_refl _⟩, ⟨by first | exact Kd.R_nil _ _ _ _ _ | exact Kd.N_nil _ _ _ _ _ | exact Kd.V_nil _ _ _ _ _ | exact Kd.Q_nil _ _ _ _ _ | exact Kd.S_nil _ _ _ _ _⟩, ⟨(bl HB.out)⟩⟩
    case round =>
     clear H'
     (try clear c1); (try clear c2); (try clear p2); (try clear c3); (try clear p3); (try clear q3); (try clear hx3); (try clear c4); (try clear c4b0); (try clear c5); (try clear c5b0); (try clear c6); (try clear c6b0); (try clear p6); (try clear c8); (try clear hcz10_0); (try clear hcz10_1); (try clear hcz10_2); (try clear hcz10_3); (try clear hcz10_4); (try clear hcz10_5); (try clear hcz10_6); (try clear hcz10_7); (try clear hcz10_8); (try clear hcz13_0); (try clear hcz13_1); (try clear hcz13_2); (try clear hcz13_3); (try clear hcz13_4); (try clear hcz13_5); (try clear hcz13_6); (try clear hcz13_7); (try clear hcz13_8); (try clear hfz10_0); (try clear hfz10_1); (try clear hfz10_2); (try clear hfz10_3); (try clear hfz10_4); (try clear hfz10_5); (try clear hfz10_6); (try clear hfz10_7); (try clear hfz10_8); (try clear hfz13_0); (try clear hfz13_1); (try clear hfz13_2); (try clear hfz13_3); (try clear hfz13_4); (try clear hfz13_5); (try clear hfz13_6); (try clear hfz13_7); (try clear hfz13_8); (try clear hx340_0); (try clear hx340_1); (try clear hx340_2); (try clear hx340_3); (try clear hx340_4); (try clear hx340_5); (try clear hx340_6); (try clear hx340_7); (try clear hx340_8); (try clear p2); (try clear p340); (try clear q340)
     obtain ⟨x10_2, x29_2, rfl, HA, HK2, HO_10, HB⟩ := hrel
     cases gk with
     | zero => exact absurd HA.out (by simp [message_Events.l1])
     | succ k2 =>
      have H := HA.out
      clear HA
      simp only [message_Events.l1] at H
      by_cases c15 : x29_2 < (l1.length : Int)
      ·
       rw [if_pos c15] at H
       have c15b0 : decide (x29_2 < (l1.length : Int)) = true := decide_eq_true c15
       clear c15
       by_cases c16 : 0 ≤ x29_2
       ·
        rw [if_pos c16] at H
        have c16b0 : decide (0 ≤ x29_2) = true := decide_eq_true c16
        clear c16
        by_cases c17 : x29_2 < (l1.length : Int)
        ·
         rw [if_pos c17] at H
         have c17b0 : decide (x29_2 < (l1.length : Int)) = true := decide_eq_true c17
         clear c17
         have H' := Aside0.mk H
         clear H
         have p343 : 0 ≤ (x29_2 : Int) := of_decide_eq_true (by first | (with_reducible assumption) | assumption)
         have q343 : x29_2 < (l1.length : Int) := of_decide_eq_true (by first | (with_reducible assumption) | assumption)
         obtain ⟨ad343, e343, hx343_0, hx343_1, hx343_2, hx343_3⟩ := at_T37 HR1.out x29_2 p343 q343
         cases e343
         replace hx343_0 := (HB.out.cell (World.block_lt_of_cell? w _ hx343_0)).trans hx343_0
         replace hx343_1 := (HB.out.cell (World.block_lt_of_cell? w _ hx343_1)).trans hx343_1
         replace hx343_2 := (HB.out.cell (World.block_lt_of_cell? w _ hx343_2)).trans hx343_2
         replace hx343_3 := (HB.out.cell (World.block_lt_of_cell? w _ hx343_3)).trans hx343_3
         replace p343 := eq_true p343
         replace q343 := eq_true q343
         go_wp2_with (first | ((with_reducible refine gate_dst (N := 12) rfl ?_); refine box_event ?hg (N := 12) ?hd (cs := #[.string (⟨#[]⟩ : ByteArray), .int .i64 0, .int .i64 0, .int .i64 0]) (t := 37) ?hr ?_; (case hd => rfl); (case hg => rfl); (case hr => first | (go_simp; done) | (go_simp; rfl)); intro gb344 hg w18 hbox hb; have BK344 := Aside0.mk (hbox); have GW344 := hz_ hg HB; have GE344 := hz_ hg HB; replace HO_10 := Aside0.mk (Kd.R_below (by (with_reducible repeat (first | apply Kd.R_alloc | apply Kd.R_drewN | apply Kd.R_drew)); exact HO_10.out) hb); replace HB := hs HB hb; clear hb hbox hg; obtain ⟨hcz19_0, hcz19_1, hcz19_2, hcz19_3⟩ := bc4 BK344.out; obtain ⟨hfz19_0, hfz19_1, hfz19_2, hfz19_3⟩ := bf4 BK344.out))
         go_loopg [10, 35] k2 (fun kq v10 v35 w' => ∃ (x10_3 : List (S77)) (x35_3 : Int), v35 = .int .i64 x35_3 ∧ Aside0 (message_Events.l2 kq l0 a2 x10_3 l1 (l1.length : Int) x29_2 l0 (l0.length : Int) x35_3 ((rd_T37 l1 x29_2).f0) ((rd_T37 l1 x29_2).f1) ((rd_T37 l1 x29_2).f2) ((rd_T37 l1 x29_2).f3) = some (r1, r2)) ∧ Aside0 (kq ≤ k2) ∧ Aside0 (Kd.R k77 77 w' w.heap.size (fun _ => True) v10 x10_3) ∧ Aside0 (w'.heap[gb344]? = some (.cells #[.string ((rd_T37 l1 x29_2).f0), .int .i64 ((rd_T37 l1 x29_2).f1), .int .i64 ((rd_T37 l1 x29_2).f2), .int .i64 ((rd_T37 l1 x29_2).f3)] 37 (0, 0))) ∧ Aside0 (Below w.heap.size w w'))
         case atStart => exact ⟨(x10_2), (0), (by first | rfl | (simp; done) | (simp [*]; done)), H', ⟨Nat.le_refl _⟩, ⟨by (with_reducible repeat (first | apply Kd.R_alloc | apply Kd.R_drewN | apply Kd.R_drew)); exact Kd.R_mono (Kd.R_far (p := ⟨gb344, 3, none⟩) (Kd.R_far (p := ⟨gb344, 2, none⟩) (Kd.R_far (p := ⟨gb344, 1, none⟩) (Kd.R_far (p := ⟨gb344, 0, none⟩) (Kd.R_types HO_10.out BK344.out (by decide)) (fun _ hk => hk.2) (.string ((rd_T37 l1 x29_2).f0))) (fun _ hk => hk.2) (.int .i64 ((rd_T37 l1 x29_2).f1))) (fun _ hk => hk.2) (.int .i64 ((rd_T37 l1 x29_2).f2))) (fun _ hk => hk.2) (.int .i64 ((rd_T37 l1 x29_2).f3))) (fun _ hk => trivial)⟩, ⟨by exact rq BK344.out (by rfl)⟩, ⟨by repeat first | (with_reducible exact HB.out) | (with_reducible refine bset ?_ ‹_›) | refine bl1 ?_ | exact HB.out⟩⟩
         case round =>
          clear H'
          (try clear c1); (try clear c2); (try clear p2); (try clear c3); (try clear p3); (try clear q3); (try clear hx3); (try clear c4); (try clear c4b0); (try clear c5); (try clear c5b0); (try clear c6); (try clear c6b0); (try clear p6); (try clear c8); (try clear c15); (try clear c15b0); (try clear c16); (try clear c16b0); (try clear c17); (try clear c17b0); (try clear hcz10_0); (try clear hcz10_1); (try clear hcz10_2); (try clear hcz10_3); (try clear hcz10_4); (try clear hcz10_5); (try clear hcz10_6); (try clear hcz10_7); (try clear hcz10_8); (try clear hcz13_0); (try clear hcz13_1); (try clear hcz13_2); (try clear hcz13_3); (try clear hcz13_4); (try clear hcz13_5); (try clear hcz13_6); (try clear hcz13_7); (try clear hcz13_8); (try clear hcz19_0); (try clear hcz19_1); (try clear hcz19_2); (try clear hcz19_3); (try clear hfz10_0); (try clear hfz10_1); (try clear hfz10_2); (try clear hfz10_3); (try clear hfz10_4); (try clear hfz10_5); (try clear hfz10_6); (try clear hfz10_7); (try clear hfz10_8); (try clear hfz13_0); (try clear hfz13_1); (try clear hfz13_2); (try clear hfz13_3); (try clear hfz13_4); (try clear hfz13_5); (try clear hfz13_6); (try clear hfz13_7); (try clear hfz13_8); (try clear hfz19_0); (try clear hfz19_1); (try clear hfz19_2); (try clear hfz19_3); (try clear hx340_0); (try clear hx340_1); (try clear hx340_2); (try clear hx340_3); (try clear hx340_4); (try clear hx340_5); (try clear hx340_6); (try clear hx340_7); (try clear hx340_8); (try clear hx343_0); (try clear hx343_1); (try clear hx343_2); (try clear hx343_3); (try clear p2); (try clear p3); (try clear p340); (try clear p343); (try clear p6); (try clear q3); (try clear q340); (try clear q343)
          obtain ⟨x10_3, x35_3, rfl, HA, HK3, HO_10, BK344, HB⟩ := hrel
          cases gk with
          | zero => exact absurd HA.out (by simp [message_Events.l2])
          | succ k3 =>
           have H := HA.out
           clear HA
           simp only [message_Events.l2] at H
           by_cases c20 : x35_3 < (l0.length : Int)
           ·
            rw [if_pos c20] at H
            have c20b0 : decide (x35_3 < (l0.length : Int)) = true := decide_eq_true c20
            clear c20
            by_cases c21 : 0 ≤ x35_3
            ·
             rw [if_pos c21] at H
             have c21b0 : decide (0 ≤ x35_3) = true := decide_eq_true c21
             clear c21
             by_cases c22 : x35_3 < (l0.length : Int)
             ·
              rw [if_pos c22] at H
              have c22b0 : decide (x35_3 < (l0.length : Int)) = true := decide_eq_true c22
              clear c22
              replace H := Option.bind_eq_some_iff.mp H
              obtain ⟨t347, A230, H⟩ := H
              (try dsimp only at H)
              have A23 := Aside0.mk A230
              clear A230
              by_cases c24 : t347 = true
              ·
               subst c24
               rw [if_pos rfl] at H
               replace H := Option.bind_eq_some_iff.mp H
               obtain ⟨⟨t348, t349, t350⟩, A250, H⟩ := H
               (try dsimp only at H)
               have A25 := Aside0.mk A250
               clear A250
               by_cases c26 : t350 = true
               ·
                subst c26
                rw [if_pos rfl] at H
                by_cases c27 : x10_3.length < 3518437208883
                ·
                 rw [if_pos c27] at H
                 have LMc27 := Aside0.mk c27
                 clear c27
                 obtain ⟨y352, hy352⟩ : ∃ y_ : List (S77), y_ = (x10_3 ++ [(⟨a2, (rd_T48 l0 x35_3).f3, (⟨t348, t349⟩ : S46)⟩ : S77)]) := ⟨_, rfl⟩
                 replace H : (message_Events.l2 k3 l0 a2 y352 l1 (l1.length : Int) x29_2 l0 (l0.length : Int) (wrap64 (x35_3 + 1)) ((rd_T37 l1 x29_2).f0) ((rd_T37 l1 x29_2).f1) ((rd_T37 l1 x29_2).f2) ((rd_T37 l1 x29_2).f3)) = some (r1, r2) := by first | (rw [hy352]; with_reducible exact H) | (have H2_ := (Option.bind_some _ _).symm.trans H; rw [hy352]; with_reducible exact H2_) | (have H2_ := (Option.bind_some _ _).symm.trans H; with_reducible exact H2_) | with_reducible exact H | (rw [hy352]; exact H) | exact H
                 have Ny352 := Aside0.mk hy352
                 clear hy352
                 have H' := Aside0.mk H
                 clear H
                 have p345 : 0 ≤ (x35_3 : Int) := of_decide_eq_true (by first | (with_reducible assumption) | assumption)
                 have q345 : x35_3 < (l0.length : Int) := of_decide_eq_true (by first | (with_reducible assumption) | assumption)
                 obtain ⟨ad345, e345, hx345_0, hx345_1, hx345_2, hx345_3, hx345_4, hx345_5, hx345_6, hx345_7, hx345_8⟩ := at_T48 HR0.out x35_3 p345 q345
                 cases e345
                 replace hx345_0 := (HB.out.cell (World.block_lt_of_cell? w _ hx345_0)).trans hx345_0
                 replace hx345_1 := (HB.out.cell (World.block_lt_of_cell? w _ hx345_1)).trans hx345_1
                 replace hx345_2 := (HB.out.cell (World.block_lt_of_cell? w _ hx345_2)).trans hx345_2
                 replace hx345_3 := (HB.out.cell (World.block_lt_of_cell? w _ hx345_3)).trans hx345_3
                 replace hx345_4 := (HB.out.cell (World.block_lt_of_cell? w _ hx345_4)).trans hx345_4
                 replace hx345_5 := (HB.out.cell (World.block_lt_of_cell? w _ hx345_5)).trans hx345_5
                 replace hx345_6 := (HB.out.cell (World.block_lt_of_cell? w _ hx345_6)).trans hx345_6
                 replace hx345_7 := (HB.out.cell (World.block_lt_of_cell? w _ hx345_7)).trans hx345_7
                 replace hx345_8 := (HB.out.cell (World.block_lt_of_cell? w _ hx345_8)).trans hx345_8
                 replace p345 := eq_true p345
                 replace q345 := eq_true q345
                 go_wp2_with (first | ((with_reducible refine gate_dst (N := 14) rfl ?_); refine box_event ?hg (N := 14) ?hd (cs := #[.string (⟨#[]⟩ : ByteArray), .int .i64 0, .int .i64 0, .string (⟨#[]⟩ : ByteArray), .int .i64 0, .int .i64 0, .int .i64 0, .int .i64 0, .bool false]) (t := 48) ?hr ?_; (case hd => rfl); (case hg => rfl); (case hr => first | (go_simp; done) | (go_simp; rfl)); intro gb346 hg w28 hbox hb; have BK346 := Aside0.mk (hbox); have GW346 := Aside0.mk ((by rw [hg]; exact (below_size (by repeat first | (with_reducible exact HB.out) | refine bl1 ?_ | (with_reducible refine bset ?_ ‹_›) | exact HB.out)) : w.heap.size ≤ gb346)); have GE346 := Aside0.mk ((by rw [hg]; exact (below_size (by repeat first | (with_reducible exact HB.out) | refine bl1 ?_ | (with_reducible refine bset ?_ ‹_›) | exact HB.out)) : w.heap.size ≤ gb346)); have NB344_346 := nlk hg BK344; have NB346_344 := ngk hg BK344; replace HO_10 := Aside0.mk (Kd.R_below (by (with_reducible repeat (first | apply Kd.R_alloc | apply Kd.R_drewN | apply Kd.R_drew)); exact HO_10.out) hb); replace BK344 := kb BK344 hb; replace HB := Aside0.mk (below_step (by repeat first | (with_reducible exact HB.out) | refine bl1 ?_ | (with_reducible refine bset ?_ ‹_›) | exact HB.out) hb); clear hb hbox hg; have hnb29 := NB346_344.out; have hnc29 := NB344_346.out; obtain ⟨hcz30_0, hcz30_1, hcz30_2, hcz30_3, hcz30_4, hcz30_5, hcz30_6, hcz30_7, hcz30_8⟩ := bc9 BK346.out; obtain ⟨hfz30_0, hfz30_1, hfz30_2, hfz30_3, hfz30_4, hfz30_5, hfz30_6, hfz30_7, hfz30_8⟩ := bf9 BK346.out; obtain ⟨hcz31_0, hcz31_1, hcz31_2, hcz31_3⟩ := bc4 BK344.out; obtain ⟨hfz31_0, hfz31_1, hfz31_2, hfz31_3⟩ := bf4 BK344.out) | ((with_reducible refine gate_callee (f := 35) rfl ?_); refine goesL_ (some 41) rfl rfl Try.func35 (by kernel_rfl) rfl #[.agg #[.string ((rd_T48 l0 x35_3).f0), .int .i64 ((rd_T48 l0 x35_3).f1), .int .i64 ((rd_T48 l0 x35_3).f2), .string ((rd_T48 l0 x35_3).f3), .int .i64 ((rd_T48 l0 x35_3).f4.f0), .int .i64 ((rd_T48 l0 x35_3).f4.f1), .int .i64 ((rd_T48 l0 x35_3).f5.f0), .int .i64 ((rd_T48 l0 x35_3).f5.f1), .bool ((rd_T48 l0 x35_3).f6)], .agg #[.string ((rd_T37 l1 x29_2).f0), .int .i64 ((rd_T37 l1 x29_2).f1), .int .i64 ((rd_T37 l1 x29_2).f2), .int .i64 ((rd_T37 l1 x29_2).f3)]] rfl (by (try simp only [mp]); first | done | rfl | (simp only [ld]; rfl)) ?_; (with_reducible refine (message_Map_fits.calls ((rd_T48 l0 x35_3).f0) ((rd_T48 l0 x35_3).f1) ((rd_T48 l0 x35_3).f2) ((rd_T48 l0 x35_3).f3) ((rd_T48 l0 x35_3).f4.f0) ((rd_T48 l0 x35_3).f4.f1) ((rd_T48 l0 x35_3).f5.f0) ((rd_T48 l0 x35_3).f5.f1) ((rd_T48 l0 x35_3).f6) ((rd_T37 l1 x29_2).f0) ((rd_T37 l1 x29_2).f1) ((rd_T37 l1 x29_2).f2) ((rd_T37 l1 x29_2).f3) true _ A23.out).mono ?_); rintro e w32 ⟨rfl, hb⟩; refine ⟨_, rfl, ?_⟩; replace HO_10 := Aside0.mk (Kd.R_below (by (with_reducible repeat (first | apply Kd.R_alloc | apply Kd.R_drewN | apply Kd.R_drew)); exact (Kd.R_mono (Kd.R_far (p := ⟨gb346, 8, none⟩) (Kd.R_far (p := ⟨gb346, 7, none⟩) (Kd.R_far (p := ⟨gb346, 6, none⟩) (Kd.R_far (p := ⟨gb346, 5, none⟩) (Kd.R_far (p := ⟨gb346, 4, none⟩) (Kd.R_far (p := ⟨gb346, 3, none⟩) (Kd.R_far (p := ⟨gb346, 2, none⟩) (Kd.R_far (p := ⟨gb346, 1, none⟩) (Kd.R_far (p := ⟨gb346, 0, none⟩) (Kd.R_types HO_10.out BK346.out (by decide)) (fun _ hk => hk.2) (.string ((rd_T48 l0 x35_3).f0))) (fun _ hk => hk.2) (.int .i64 ((rd_T48 l0 x35_3).f1))) (fun _ hk => hk.2) (.int .i64 ((rd_T48 l0 x35_3).f2))) (fun _ hk => hk.2) (.string ((rd_T48 l0 x35_3).f3))) (fun _ hk => hk.2) (.int .i64 ((rd_T48 l0 x35_3).f4.f0))) (fun _ hk => hk.2) (.int .i64 ((rd_T48 l0 x35_3).f4.f1))) (fun _ hk => hk.2) (.int .i64 ((rd_T48 l0 x35_3).f5.f0))) (fun _ hk => hk.2) (.int .i64 ((rd_T48 l0 x35_3).f5.f1))) (fun _ hk => hk.2) (.bool ((rd_T48 l0 x35_3).f6))) (fun _ h_ => h_.1))) hb); replace BK344 := Aside0.mk (blk_below (g := gb344) (o := .cells #[.string ((rd_T37 l1 x29_2).f0), .int .i64 ((rd_T37 l1 x29_2).f1), .int .i64 ((rd_T37 l1 x29_2).f2), .int .i64 ((rd_T37 l1 x29_2).f3)] 37 (0, 0)) (by refine bk ?_; refine blk_far ?_ NB344_346.out _; refine bk ?_; refine blk_far ?_ NB344_346.out _; refine bk ?_; refine blk_far ?_ NB344_346.out _; refine bk ?_; refine blk_far ?_ NB344_346.out _; refine bk ?_; refine blk_far ?_ NB344_346.out _; refine bk ?_; refine blk_far ?_ NB344_346.out _; refine bk ?_; refine blk_far ?_ NB344_346.out _; refine bk ?_; refine blk_far ?_ NB344_346.out _; refine bk ?_; refine blk_far ?_ NB344_346.out _; refine bk ?_; exact BK344.out) hb); replace BK346 := Aside0.mk (blk_below (g := gb346) (o := .cells #[.string ((rd_T48 l0 x35_3).f0), .int .i64 ((rd_T48 l0 x35_3).f1), .int .i64 ((rd_T48 l0 x35_3).f2), .string ((rd_T48 l0 x35_3).f3), .int .i64 ((rd_T48 l0 x35_3).f4.f0), .int .i64 ((rd_T48 l0 x35_3).f4.f1), .int .i64 ((rd_T48 l0 x35_3).f5.f0), .int .i64 ((rd_T48 l0 x35_3).f5.f1), .bool ((rd_T48 l0 x35_3).f6)] 48 (0, 0)) (by exact rq BK346.out (by rfl)) hb); replace HB := Aside0.mk (below_step (by repeat first | (with_reducible exact HB.out) | refine bl1 ?_ | (with_reducible refine bset ?_ ‹_›) | exact HB.out) hb); (try clear hb); (try clear hb2); (try clear hk); (try clear hi); obtain ⟨hcz33_0, hcz33_1, hcz33_2, hcz33_3, hcz33_4, hcz33_5, hcz33_6, hcz33_7, hcz33_8⟩ := bc9 BK346.out; obtain ⟨hfz33_0, hfz33_1, hfz33_2, hfz33_3, hfz33_4, hfz33_5, hfz33_6, hfz33_7, hfz33_8⟩ := bf9 BK346.out; obtain ⟨hcz34_0, hcz34_1, hcz34_2, hcz34_3⟩ := bc4 BK344.out; obtain ⟨hfz34_0, hfz34_1, hfz34_2, hfz34_3⟩ := bf4 BK344.out) | ((with_reducible refine gate_callee (f := 36) rfl ?_); refine goesL_ (some 46) rfl rfl Try.func36 (by kernel_rfl) rfl #[.agg #[.string ((rd_T48 l0 x35_3).f0), .int .i64 ((rd_T48 l0 x35_3).f1), .int .i64 ((rd_T48 l0 x35_3).f2), .string ((rd_T48 l0 x35_3).f3), .int .i64 ((rd_T48 l0 x35_3).f4.f0), .int .i64 ((rd_T48 l0 x35_3).f4.f1), .int .i64 ((rd_T48 l0 x35_3).f5.f0), .int .i64 ((rd_T48 l0 x35_3).f5.f1), .bool ((rd_T48 l0 x35_3).f6)], .agg #[.string ((rd_T37 l1 x29_2).f0), .int .i64 ((rd_T37 l1 x29_2).f1), .int .i64 ((rd_T37 l1 x29_2).f2), .int .i64 ((rd_T37 l1 x29_2).f3)]] rfl (by (try simp only [mp]); first | done | rfl | (simp only [ld]; rfl)) ?_; (with_reducible refine (message_Map_value.calls ((rd_T48 l0 x35_3).f0) ((rd_T48 l0 x35_3).f1) ((rd_T48 l0 x35_3).f2) ((rd_T48 l0 x35_3).f3) ((rd_T48 l0 x35_3).f4.f0) ((rd_T48 l0 x35_3).f4.f1) ((rd_T48 l0 x35_3).f5.f0) ((rd_T48 l0 x35_3).f5.f1) ((rd_T48 l0 x35_3).f6) ((rd_T37 l1 x29_2).f0) ((rd_T37 l1 x29_2).f1) ((rd_T37 l1 x29_2).f2) ((rd_T37 l1 x29_2).f3) t348 t349 true _ A25.out).mono ?_); rintro e w35 ⟨rfl, hb⟩; refine ⟨_, rfl, ?_⟩; replace HO_10 := Aside0.mk (Kd.R_below (by (with_reducible repeat (first | apply Kd.R_alloc | apply Kd.R_drewN | apply Kd.R_drew)); exact HO_10.out) hb); replace BK344 := kb BK344 hb; replace BK346 := kb BK346 hb; replace HB := Aside0.mk (below_step (by repeat first | (with_reducible exact HB.out) | refine bl1 ?_ | (with_reducible refine bset ?_ ‹_›) | exact HB.out) hb); (try clear hb); (try clear hb2); (try clear hk); (try clear hi)) | ((with_reducible refine gate_dst (N := 15) rfl ?_); refine box_event ?hg (N := 15) ?hd (cs := #[.int .i64 0, .int .i64 0]) (t := 46) ?hr ?_; (case hd => rfl); (case hg => rfl); (case hr => first | (go_simp; done) | (go_simp; rfl)); intro gb351 hg w36 hbox hb; have BK351 := Aside0.mk (hbox); have GW351 := Aside0.mk ((by rw [hg]; exact (below_size (by repeat first | (with_reducible exact HB.out) | refine bl1 ?_ | (with_reducible refine bset ?_ ‹_›) | exact HB.out)) : w.heap.size ≤ gb351)); have GE351 := Aside0.mk ((by rw [hg]; exact (below_size (by repeat first | (with_reducible exact HB.out) | refine bl1 ?_ | (with_reducible refine bset ?_ ‹_›) | exact HB.out)) : w.heap.size ≤ gb351)); have NB344_351 := nlk hg BK344; have NB351_344 := ngk hg BK344; have NB346_351 := nlk hg BK346; have NB351_346 := ngk hg BK346; replace HO_10 := Aside0.mk (Kd.R_below (by (with_reducible repeat (first | apply Kd.R_alloc | apply Kd.R_drewN | apply Kd.R_drew)); exact HO_10.out) hb); replace BK344 := kb BK344 hb; replace BK346 := kb BK346 hb; replace HB := Aside0.mk (below_step (by repeat first | (with_reducible exact HB.out) | refine bl1 ?_ | (with_reducible refine bset ?_ ‹_›) | exact HB.out) hb); clear hb hbox hg; have hnb37 := NB351_344.out; have hnc37 := NB344_351.out; have hnb38 := NB351_346.out; have hnc38 := NB346_351.out; obtain ⟨hcz39_0, hcz39_1⟩ := bc2 BK351.out; obtain ⟨hfz39_0, hfz39_1⟩ := bf2 BK351.out; obtain ⟨hcz40_0, hcz40_1, hcz40_2, hcz40_3, hcz40_4, hcz40_5, hcz40_6, hcz40_7, hcz40_8⟩ := bc9 BK346.out; obtain ⟨hfz40_0, hfz40_1, hfz40_2, hfz40_3, hfz40_4, hfz40_5, hfz40_6, hfz40_7, hfz40_8⟩ := bf9 BK346.out) | ((with_reducible refine gate_builtin (b := .append) (xs := #[.tmp 50, .tmp 56]) rfl ?_); at_builtin; refine Kd.R_append k77 (w0 := w) w.heap.size rfl (.tmp 50) (.tmp 56) 50 77 (.agg #[(.int .i64 0), (.string ⟨#[]⟩), (.int .i64 0), (.int .i64 0)]) 40 rfl Try.underlying50 info77 rfl (by decide) (by omega) u10 x10_3 (⟨a2, (rd_T48 l0 x35_3).f3, (⟨t348, t349⟩ : S46)⟩ : S77) [.int .i64 a2, .string ((rd_T48 l0 x35_3).f3), .int .i64 t348, .int .i64 t349] (fun _ => True) (fun _ => False) rfl (by first | (go_simp; done) | (go_simp; rfl)) ?aP (fun _ hk => hk.elim) ?aF ?aO ?aB ?aS ?aL ?_; (case aP => exact k77_mkM _ _ _ (⟨a2, (rd_T48 l0 x35_3).f3, (⟨t348, t349⟩ : S46)⟩ : S77)); (case aB => exact (by repeat first | (with_reducible exact HB.out) | refine bl1 ?_ | (with_reducible refine bset ?_ ‹_›) | exact HB.out)); (case aF => exact (fun _ _ => trivial)); (case aO => exact (by (with_reducible repeat (first | apply Kd.R_alloc | apply Kd.R_drewN | apply Kd.R_drew)); exact Kd.R_mono (Kd.R_far (p := ⟨gb351, 1, none⟩) (Kd.R_far (p := ⟨gb351, 0, none⟩) (Kd.R_types HO_10.out BK351.out (by decide)) (fun _ hk => hk.2) (.int .i64 t348)) (fun _ hk => hk.2) (.int .i64 t349)) (fun _ hk => trivial))); (case aS => exact (below_size (by repeat first | (with_reducible exact HB.out) | refine bl1 ?_ | (with_reducible refine bset ?_ ‹_›) | exact HB.out))); (case aL => have := LMc27.out; omega); intro v353 w41 ho hb hg hat; rw [← Ny352.out] at ho; have HO354 := Aside0.mk (ho); replace BK344 := Aside0.mk (blk_grown (g := gb344) (o := .cells #[.string ((rd_T37 l1 x29_2).f0), .int .i64 ((rd_T37 l1 x29_2).f1), .int .i64 ((rd_T37 l1 x29_2).f2), .int .i64 ((rd_T37 l1 x29_2).f3)] 37 (0, 0)) (by refine bk ?_; refine blk_far ?_ NB344_351.out _; refine bk ?_; refine blk_far ?_ NB344_351.out _; refine bk ?_; exact BK344.out) hg (Kd.R_ne HO_10.out BK344.out (by decide))); replace BK346 := Aside0.mk (blk_grown (g := gb346) (o := .cells #[.string ((rd_T48 l0 x35_3).f0), .int .i64 ((rd_T48 l0 x35_3).f1), .int .i64 ((rd_T48 l0 x35_3).f2), .string ((rd_T48 l0 x35_3).f3), .int .i64 ((rd_T48 l0 x35_3).f4.f0), .int .i64 ((rd_T48 l0 x35_3).f4.f1), .int .i64 ((rd_T48 l0 x35_3).f5.f0), .int .i64 ((rd_T48 l0 x35_3).f5.f1), .bool ((rd_T48 l0 x35_3).f6)] 48 (0, 0)) (by refine bk ?_; refine blk_far ?_ NB346_351.out _; refine bk ?_; refine blk_far ?_ NB346_351.out _; refine bk ?_; exact BK346.out) hg (Kd.R_ne HO_10.out BK346.out (by decide))); replace BK351 := Aside0.mk (blk_grown (g := gb351) (o := .cells #[.int .i64 t348, .int .i64 t349] 46 (0, 0)) (by exact rq BK351.out (by rfl)) hg (Kd.R_ne HO_10.out BK351.out (by decide))); replace HB := Aside0.mk (hb); clear HO_10; clear ho hb hg hat))
                 go_roundg k3
                 case measure => have := HK1.out; have := HK2.out; have := HK3.out; omega
                 case rel => exact ⟨(y352), (wrap64 (x35_3 + 1)), (by first | rfl | (simp; done) | (simp [*]; done)), H', ⟨by have := HK1.out; have := HK2.out; have := HK3.out; omega⟩, ⟨by (with_reducible repeat (first | apply Kd.R_alloc | apply Kd.R_drewN | apply Kd.R_drew)); exact HO354.out⟩, ⟨by refine bk ?_; exact BK344.out⟩, ⟨by repeat first | (with_reducible exact HB.out) | (with_reducible refine bset ?_ ‹_›) | refine bl1 ?_ | exact HB.out⟩⟩
                ·
                 rw [if_neg c27] at H
                 exact absurd H (by simp)
               ·
                replace c26 := Bool.eq_false_iff.mpr c26
                subst c26
                rw [if_neg (show ¬ (false = true) by decide)] at H
                have H' := Aside0.mk H
                clear H
                have p345 : 0 ≤ (x35_3 : Int) := of_decide_eq_true (by first | (with_reducible assumption) | assumption)
                have q345 : x35_3 < (l0.length : Int) := of_decide_eq_true (by first | (with_reducible assumption) | assumption)
                obtain ⟨ad345, e345, hx345_0, hx345_1, hx345_2, hx345_3, hx345_4, hx345_5, hx345_6, hx345_7, hx345_8⟩ := at_T48 HR0.out x35_3 p345 q345
                cases e345
                replace hx345_0 := (HB.out.cell (World.block_lt_of_cell? w _ hx345_0)).trans hx345_0
                replace hx345_1 := (HB.out.cell (World.block_lt_of_cell? w _ hx345_1)).trans hx345_1
                replace hx345_2 := (HB.out.cell (World.block_lt_of_cell? w _ hx345_2)).trans hx345_2
                replace hx345_3 := (HB.out.cell (World.block_lt_of_cell? w _ hx345_3)).trans hx345_3
                replace hx345_4 := (HB.out.cell (World.block_lt_of_cell? w _ hx345_4)).trans hx345_4
                replace hx345_5 := (HB.out.cell (World.block_lt_of_cell? w _ hx345_5)).trans hx345_5
                replace hx345_6 := (HB.out.cell (World.block_lt_of_cell? w _ hx345_6)).trans hx345_6
                replace hx345_7 := (HB.out.cell (World.block_lt_of_cell? w _ hx345_7)).trans hx345_7
                replace hx345_8 := (HB.out.cell (World.block_lt_of_cell? w _ hx345_8)).trans hx345_8
                replace p345 := eq_true p345
                replace q345 := eq_true q345
                go_wp2_with (first | ((with_reducible refine gate_dst (N := 14) rfl ?_); refine box_event ?hg (N := 14) ?hd (cs := #[.string (⟨#[]⟩ : ByteArray), .int .i64 0, .int .i64 0, .string (⟨#[]⟩ : ByteArray), .int .i64 0, .int .i64 0, .int .i64 0, .int .i64 0, .bool false]) (t := 48) ?hr ?_; (case hd => rfl); (case hg => rfl); (case hr => first | (go_simp; done) | (go_simp; rfl)); intro gb346 hg w42 hbox hb; have BK346 := Aside0.mk (hbox); have GW346 := Aside0.mk ((by rw [hg]; exact (below_size (by repeat first | (with_reducible exact HB.out) | refine bl1 ?_ | (with_reducible refine bset ?_ ‹_›) | exact HB.out)) : w.heap.size ≤ gb346)); have GE346 := Aside0.mk ((by rw [hg]; exact (below_size (by repeat first | (with_reducible exact HB.out) | refine bl1 ?_ | (with_reducible refine bset ?_ ‹_›) | exact HB.out)) : w.heap.size ≤ gb346)); have NB344_346 := nlk hg BK344; have NB346_344 := ngk hg BK344; replace HO_10 := Aside0.mk (Kd.R_below (by (with_reducible repeat (first | apply Kd.R_alloc | apply Kd.R_drewN | apply Kd.R_drew)); exact HO_10.out) hb); replace BK344 := kb BK344 hb; replace HB := Aside0.mk (below_step (by repeat first | (with_reducible exact HB.out) | refine bl1 ?_ | (with_reducible refine bset ?_ ‹_›) | exact HB.out) hb); clear hb hbox hg; have hnb43 := NB346_344.out; have hnc43 := NB344_346.out; obtain ⟨hcz44_0, hcz44_1, hcz44_2, hcz44_3, hcz44_4, hcz44_5, hcz44_6, hcz44_7, hcz44_8⟩ := bc9 BK346.out; obtain ⟨hfz44_0, hfz44_1, hfz44_2, hfz44_3, hfz44_4, hfz44_5, hfz44_6, hfz44_7, hfz44_8⟩ := bf9 BK346.out; obtain ⟨hcz45_0, hcz45_1, hcz45_2, hcz45_3⟩ := bc4 BK344.out; obtain ⟨hfz45_0, hfz45_1, hfz45_2, hfz45_3⟩ := bf4 BK344.out) | ((with_reducible refine gate_callee (f := 35) rfl ?_); refine goesL_ (some 41) rfl rfl Try.func35 (by kernel_rfl) rfl #[.agg #[.string ((rd_T48 l0 x35_3).f0), .int .i64 ((rd_T48 l0 x35_3).f1), .int .i64 ((rd_T48 l0 x35_3).f2), .string ((rd_T48 l0 x35_3).f3), .int .i64 ((rd_T48 l0 x35_3).f4.f0), .int .i64 ((rd_T48 l0 x35_3).f4.f1), .int .i64 ((rd_T48 l0 x35_3).f5.f0), .int .i64 ((rd_T48 l0 x35_3).f5.f1), .bool ((rd_T48 l0 x35_3).f6)], .agg #[.string ((rd_T37 l1 x29_2).f0), .int .i64 ((rd_T37 l1 x29_2).f1), .int .i64 ((rd_T37 l1 x29_2).f2), .int .i64 ((rd_T37 l1 x29_2).f3)]] rfl (by (try simp only [mp]); first | done | rfl | (simp only [ld]; rfl)) ?_; (with_reducible refine (message_Map_fits.calls ((rd_T48 l0 x35_3).f0) ((rd_T48 l0 x35_3).f1) ((rd_T48 l0 x35_3).f2) ((rd_T48 l0 x35_3).f3) ((rd_T48 l0 x35_3).f4.f0) ((rd_T48 l0 x35_3).f4.f1) ((rd_T48 l0 x35_3).f5.f0) ((rd_T48 l0 x35_3).f5.f1) ((rd_T48 l0 x35_3).f6) ((rd_T37 l1 x29_2).f0) ((rd_T37 l1 x29_2).f1) ((rd_T37 l1 x29_2).f2) ((rd_T37 l1 x29_2).f3) true _ A23.out).mono ?_); rintro e w46 ⟨rfl, hb⟩; refine ⟨_, rfl, ?_⟩; replace HO_10 := Aside0.mk (Kd.R_below (by (with_reducible repeat (first | apply Kd.R_alloc | apply Kd.R_drewN | apply Kd.R_drew)); exact (Kd.R_mono (Kd.R_far (p := ⟨gb346, 8, none⟩) (Kd.R_far (p := ⟨gb346, 7, none⟩) (Kd.R_far (p := ⟨gb346, 6, none⟩) (Kd.R_far (p := ⟨gb346, 5, none⟩) (Kd.R_far (p := ⟨gb346, 4, none⟩) (Kd.R_far (p := ⟨gb346, 3, none⟩) (Kd.R_far (p := ⟨gb346, 2, none⟩) (Kd.R_far (p := ⟨gb346, 1, none⟩) (Kd.R_far (p := ⟨gb346, 0, none⟩) (Kd.R_types HO_10.out BK346.out (by decide)) (fun _ hk => hk.2) (.string ((rd_T48 l0 x35_3).f0))) (fun _ hk => hk.2) (.int .i64 ((rd_T48 l0 x35_3).f1))) (fun _ hk => hk.2) (.int .i64 ((rd_T48 l0 x35_3).f2))) (fun _ hk => hk.2) (.string ((rd_T48 l0 x35_3).f3))) (fun _ hk => hk.2) (.int .i64 ((rd_T48 l0 x35_3).f4.f0))) (fun _ hk => hk.2) (.int .i64 ((rd_T48 l0 x35_3).f4.f1))) (fun _ hk => hk.2) (.int .i64 ((rd_T48 l0 x35_3).f5.f0))) (fun _ hk => hk.2) (.int .i64 ((rd_T48 l0 x35_3).f5.f1))) (fun _ hk => hk.2) (.bool ((rd_T48 l0 x35_3).f6))) (fun _ h_ => h_.1))) hb); replace BK344 := Aside0.mk (blk_below (g := gb344) (o := .cells #[.string ((rd_T37 l1 x29_2).f0), .int .i64 ((rd_T37 l1 x29_2).f1), .int .i64 ((rd_T37 l1 x29_2).f2), .int .i64 ((rd_T37 l1 x29_2).f3)] 37 (0, 0)) (by refine bk ?_; refine blk_far ?_ NB344_346.out _; refine bk ?_; refine blk_far ?_ NB344_346.out _; refine bk ?_; refine blk_far ?_ NB344_346.out _; refine bk ?_; refine blk_far ?_ NB344_346.out _; refine bk ?_; refine blk_far ?_ NB344_346.out _; refine bk ?_; refine blk_far ?_ NB344_346.out _; refine bk ?_; refine blk_far ?_ NB344_346.out _; refine bk ?_; refine blk_far ?_ NB344_346.out _; refine bk ?_; refine blk_far ?_ NB344_346.out _; refine bk ?_; exact BK344.out) hb); replace BK346 := Aside0.mk (blk_below (g := gb346) (o := .cells #[.string ((rd_T48 l0 x35_3).f0), .int .i64 ((rd_T48 l0 x35_3).f1), .int .i64 ((rd_T48 l0 x35_3).f2), .string ((rd_T48 l0 x35_3).f3), .int .i64 ((rd_T48 l0 x35_3).f4.f0), .int .i64 ((rd_T48 l0 x35_3).f4.f1), .int .i64 ((rd_T48 l0 x35_3).f5.f0), .int .i64 ((rd_T48 l0 x35_3).f5.f1), .bool ((rd_T48 l0 x35_3).f6)] 48 (0, 0)) (by exact rq BK346.out (by rfl)) hb); replace HB := Aside0.mk (below_step (by repeat first | (with_reducible exact HB.out) | refine bl1 ?_ | (with_reducible refine bset ?_ ‹_›) | exact HB.out) hb); (try clear hb); (try clear hb2); (try clear hk); (try clear hi); obtain ⟨hcz47_0, hcz47_1, hcz47_2, hcz47_3, hcz47_4, hcz47_5, hcz47_6, hcz47_7, hcz47_8⟩ := bc9 BK346.out; obtain ⟨hfz47_0, hfz47_1, hfz47_2, hfz47_3, hfz47_4, hfz47_5, hfz47_6, hfz47_7, hfz47_8⟩ := bf9 BK346.out; obtain ⟨hcz48_0, hcz48_1, hcz48_2, hcz48_3⟩ := bc4 BK344.out; obtain ⟨hfz48_0, hfz48_1, hfz48_2, hfz48_3⟩ := bf4 BK344.out) | ((with_reducible refine gate_callee (f := 36) rfl ?_); refine goesL_ (some 46) rfl rfl Try.func36 (by kernel_rfl) rfl #[.agg #[.string ((rd_T48 l0 x35_3).f0), .int .i64 ((rd_T48 l0 x35_3).f1), .int .i64 ((rd_T48 l0 x35_3).f2), .string ((rd_T48 l0 x35_3).f3), .int .i64 ((rd_T48 l0 x35_3).f4.f0), .int .i64 ((rd_T48 l0 x35_3).f4.f1), .int .i64 ((rd_T48 l0 x35_3).f5.f0), .int .i64 ((rd_T48 l0 x35_3).f5.f1), .bool ((rd_T48 l0 x35_3).f6)], .agg #[.string ((rd_T37 l1 x29_2).f0), .int .i64 ((rd_T37 l1 x29_2).f1), .int .i64 ((rd_T37 l1 x29_2).f2), .int .i64 ((rd_T37 l1 x29_2).f3)]] rfl (by (try simp only [mp]); first | done | rfl | (simp only [ld]; rfl)) ?_; (with_reducible refine (message_Map_value.calls ((rd_T48 l0 x35_3).f0) ((rd_T48 l0 x35_3).f1) ((rd_T48 l0 x35_3).f2) ((rd_T48 l0 x35_3).f3) ((rd_T48 l0 x35_3).f4.f0) ((rd_T48 l0 x35_3).f4.f1) ((rd_T48 l0 x35_3).f5.f0) ((rd_T48 l0 x35_3).f5.f1) ((rd_T48 l0 x35_3).f6) ((rd_T37 l1 x29_2).f0) ((rd_T37 l1 x29_2).f1) ((rd_T37 l1 x29_2).f2) ((rd_T37 l1 x29_2).f3) t348 t349 false _ A25.out).mono ?_); rintro e w49 ⟨rfl, hb⟩; refine ⟨_, rfl, ?_⟩; replace HO_10 := Aside0.mk (Kd.R_below (by (with_reducible repeat (first | apply Kd.R_alloc | apply Kd.R_drewN | apply Kd.R_drew)); exact HO_10.out) hb); replace BK344 := kb BK344 hb; replace BK346 := kb BK346 hb; replace HB := Aside0.mk (below_step (by repeat first | (with_reducible exact HB.out) | refine bl1 ?_ | (with_reducible refine bset ?_ ‹_›) | exact HB.out) hb); (try clear hb); (try clear hb2); (try clear hk); (try clear hi)) | ((with_reducible refine gate_dst (N := 15) rfl ?_); refine box_event ?hg (N := 15) ?hd (cs := #[.int .i64 0, .int .i64 0]) (t := 46) ?hr ?_; (case hd => rfl); (case hg => rfl); (case hr => first | (go_simp; done) | (go_simp; rfl)); intro gb351 hg w50 hbox hb; have BK351 := Aside0.mk (hbox); have GW351 := Aside0.mk ((by rw [hg]; exact (below_size (by repeat first | (with_reducible exact HB.out) | refine bl1 ?_ | (with_reducible refine bset ?_ ‹_›) | exact HB.out)) : w.heap.size ≤ gb351)); have GE351 := Aside0.mk ((by rw [hg]; exact (below_size (by repeat first | (with_reducible exact HB.out) | refine bl1 ?_ | (with_reducible refine bset ?_ ‹_›) | exact HB.out)) : w.heap.size ≤ gb351)); have NB344_351 := nlk hg BK344; have NB351_344 := ngk hg BK344; have NB346_351 := nlk hg BK346; have NB351_346 := ngk hg BK346; replace HO_10 := Aside0.mk (Kd.R_below (by (with_reducible repeat (first | apply Kd.R_alloc | apply Kd.R_drewN | apply Kd.R_drew)); exact HO_10.out) hb); replace BK344 := kb BK344 hb; replace BK346 := kb BK346 hb; replace HB := Aside0.mk (below_step (by repeat first | (with_reducible exact HB.out) | refine bl1 ?_ | (with_reducible refine bset ?_ ‹_›) | exact HB.out) hb); clear hb hbox hg; have hnb51 := NB351_344.out; have hnc51 := NB344_351.out; have hnb52 := NB351_346.out; have hnc52 := NB346_351.out; obtain ⟨hcz53_0, hcz53_1⟩ := bc2 BK351.out; obtain ⟨hfz53_0, hfz53_1⟩ := bf2 BK351.out))
                go_roundg k3
                case measure => have := HK1.out; have := HK2.out; have := HK3.out; omega
                case rel => exact ⟨(x10_3), (wrap64 (x35_3 + 1)), (by first | rfl | (simp; done) | (simp [*]; done)), H', ⟨by have := HK1.out; have := HK2.out; have := HK3.out; omega⟩, ⟨by (with_reducible repeat (first | apply Kd.R_alloc | apply Kd.R_drewN | apply Kd.R_drew)); exact Kd.R_mono (Kd.R_far (p := ⟨gb351, 1, none⟩) (Kd.R_far (p := ⟨gb351, 0, none⟩) (Kd.R_types HO_10.out BK351.out (by decide)) (fun _ hk => hk.2) (.int .i64 t348)) (fun _ hk => hk.2) (.int .i64 t349)) (fun _ hk => trivial)⟩, ⟨by refine bk ?_; refine blk_far ?_ NB344_351.out _; refine bk ?_; refine blk_far ?_ NB344_351.out _; refine bk ?_; exact BK344.out⟩, ⟨by repeat first | (with_reducible exact HB.out) | (with_reducible refine bset ?_ ‹_›) | refine bl1 ?_ | exact HB.out⟩⟩
              ·
               replace c24 := Bool.eq_false_iff.mpr c24
               subst c24
               rw [if_neg (show ¬ (false = true) by decide)] at H
               have H' := Aside0.mk H
               clear H
               have p345 : 0 ≤ (x35_3 : Int) := of_decide_eq_true (by first | (with_reducible assumption) | assumption)
               have q345 : x35_3 < (l0.length : Int) := of_decide_eq_true (by first | (with_reducible assumption) | assumption)
               obtain ⟨ad345, e345, hx345_0, hx345_1, hx345_2, hx345_3, hx345_4, hx345_5, hx345_6, hx345_7, hx345_8⟩ := at_T48 HR0.out x35_3 p345 q345
               cases e345
               replace hx345_0 := (HB.out.cell (World.block_lt_of_cell? w _ hx345_0)).trans hx345_0
               replace hx345_1 := (HB.out.cell (World.block_lt_of_cell? w _ hx345_1)).trans hx345_1
               replace hx345_2 := (HB.out.cell (World.block_lt_of_cell? w _ hx345_2)).trans hx345_2
               replace hx345_3 := (HB.out.cell (World.block_lt_of_cell? w _ hx345_3)).trans hx345_3
               replace hx345_4 := (HB.out.cell (World.block_lt_of_cell? w _ hx345_4)).trans hx345_4
               replace hx345_5 := (HB.out.cell (World.block_lt_of_cell? w _ hx345_5)).trans hx345_5
               replace hx345_6 := (HB.out.cell (World.block_lt_of_cell? w _ hx345_6)).trans hx345_6
               replace hx345_7 := (HB.out.cell (World.block_lt_of_cell? w _ hx345_7)).trans hx345_7
               replace hx345_8 := (HB.out.cell (World.block_lt_of_cell? w _ hx345_8)).trans hx345_8
               replace p345 := eq_true p345
               replace q345 := eq_true q345
               go_wp2_with (first | ((with_reducible refine gate_dst (N := 14) rfl ?_); refine box_event ?hg (N := 14) ?hd (cs := #[.string (⟨#[]⟩ : ByteArray), .int .i64 0, .int .i64 0, .string (⟨#[]⟩ : ByteArray), .int .i64 0, .int .i64 0, .int .i64 0, .int .i64 0, .bool false]) (t := 48) ?hr ?_; (case hd => rfl); (case hg => rfl); (case hr => first | (go_simp; done) | (go_simp; rfl)); intro gb346 hg w54 hbox hb; have BK346 := Aside0.mk (hbox); have GW346 := Aside0.mk ((by rw [hg]; exact (below_size (by repeat first | (with_reducible exact HB.out) | refine bl1 ?_ | (with_reducible refine bset ?_ ‹_›) | exact HB.out)) : w.heap.size ≤ gb346)); have GE346 := Aside0.mk ((by rw [hg]; exact (below_size (by repeat first | (with_reducible exact HB.out) | refine bl1 ?_ | (with_reducible refine bset ?_ ‹_›) | exact HB.out)) : w.heap.size ≤ gb346)); have NB344_346 := nlk hg BK344; have NB346_344 := ngk hg BK344; replace HO_10 := Aside0.mk (Kd.R_below (by (with_reducible repeat (first | apply Kd.R_alloc | apply Kd.R_drewN | apply Kd.R_drew)); exact HO_10.out) hb); replace BK344 := kb BK344 hb; replace HB := Aside0.mk (below_step (by repeat first | (with_reducible exact HB.out) | refine bl1 ?_ | (with_reducible refine bset ?_ ‹_›) | exact HB.out) hb); clear hb hbox hg; have hnb55 := NB346_344.out; have hnc55 := NB344_346.out; obtain ⟨hcz56_0, hcz56_1, hcz56_2, hcz56_3, hcz56_4, hcz56_5, hcz56_6, hcz56_7, hcz56_8⟩ := bc9 BK346.out; obtain ⟨hfz56_0, hfz56_1, hfz56_2, hfz56_3, hfz56_4, hfz56_5, hfz56_6, hfz56_7, hfz56_8⟩ := bf9 BK346.out; obtain ⟨hcz57_0, hcz57_1, hcz57_2, hcz57_3⟩ := bc4 BK344.out; obtain ⟨hfz57_0, hfz57_1, hfz57_2, hfz57_3⟩ := bf4 BK344.out) | ((with_reducible refine gate_callee (f := 35) rfl ?_); refine goesL_ (some 41) rfl rfl Try.func35 (by kernel_rfl) rfl #[.agg #[.string ((rd_T48 l0 x35_3).f0), .int .i64 ((rd_T48 l0 x35_3).f1), .int .i64 ((rd_T48 l0 x35_3).f2), .string ((rd_T48 l0 x35_3).f3), .int .i64 ((rd_T48 l0 x35_3).f4.f0), .int .i64 ((rd_T48 l0 x35_3).f4.f1), .int .i64 ((rd_T48 l0 x35_3).f5.f0), .int .i64 ((rd_T48 l0 x35_3).f5.f1), .bool ((rd_T48 l0 x35_3).f6)], .agg #[.string ((rd_T37 l1 x29_2).f0), .int .i64 ((rd_T37 l1 x29_2).f1), .int .i64 ((rd_T37 l1 x29_2).f2), .int .i64 ((rd_T37 l1 x29_2).f3)]] rfl (by (try simp only [mp]); first | done | rfl | (simp only [ld]; rfl)) ?_; (with_reducible refine (message_Map_fits.calls ((rd_T48 l0 x35_3).f0) ((rd_T48 l0 x35_3).f1) ((rd_T48 l0 x35_3).f2) ((rd_T48 l0 x35_3).f3) ((rd_T48 l0 x35_3).f4.f0) ((rd_T48 l0 x35_3).f4.f1) ((rd_T48 l0 x35_3).f5.f0) ((rd_T48 l0 x35_3).f5.f1) ((rd_T48 l0 x35_3).f6) ((rd_T37 l1 x29_2).f0) ((rd_T37 l1 x29_2).f1) ((rd_T37 l1 x29_2).f2) ((rd_T37 l1 x29_2).f3) false _ A23.out).mono ?_); rintro e w58 ⟨rfl, hb⟩; refine ⟨_, rfl, ?_⟩; replace HO_10 := Aside0.mk (Kd.R_below (by (with_reducible repeat (first | apply Kd.R_alloc | apply Kd.R_drewN | apply Kd.R_drew)); exact (Kd.R_mono (Kd.R_far (p := ⟨gb346, 8, none⟩) (Kd.R_far (p := ⟨gb346, 7, none⟩) (Kd.R_far (p := ⟨gb346, 6, none⟩) (Kd.R_far (p := ⟨gb346, 5, none⟩) (Kd.R_far (p := ⟨gb346, 4, none⟩) (Kd.R_far (p := ⟨gb346, 3, none⟩) (Kd.R_far (p := ⟨gb346, 2, none⟩) (Kd.R_far (p := ⟨gb346, 1, none⟩) (Kd.R_far (p := ⟨gb346, 0, none⟩) (Kd.R_types HO_10.out BK346.out (by decide)) (fun _ hk => hk.2) (.string ((rd_T48 l0 x35_3).f0))) (fun _ hk => hk.2) (.int .i64 ((rd_T48 l0 x35_3).f1))) (fun _ hk => hk.2) (.int .i64 ((rd_T48 l0 x35_3).f2))) (fun _ hk => hk.2) (.string ((rd_T48 l0 x35_3).f3))) (fun _ hk => hk.2) (.int .i64 ((rd_T48 l0 x35_3).f4.f0))) (fun _ hk => hk.2) (.int .i64 ((rd_T48 l0 x35_3).f4.f1))) (fun _ hk => hk.2) (.int .i64 ((rd_T48 l0 x35_3).f5.f0))) (fun _ hk => hk.2) (.int .i64 ((rd_T48 l0 x35_3).f5.f1))) (fun _ hk => hk.2) (.bool ((rd_T48 l0 x35_3).f6))) (fun _ h_ => h_.1))) hb); replace BK344 := Aside0.mk (blk_below (g := gb344) (o := .cells #[.string ((rd_T37 l1 x29_2).f0), .int .i64 ((rd_T37 l1 x29_2).f1), .int .i64 ((rd_T37 l1 x29_2).f2), .int .i64 ((rd_T37 l1 x29_2).f3)] 37 (0, 0)) (by refine bk ?_; refine blk_far ?_ NB344_346.out _; refine bk ?_; refine blk_far ?_ NB344_346.out _; refine bk ?_; refine blk_far ?_ NB344_346.out _; refine bk ?_; refine blk_far ?_ NB344_346.out _; refine bk ?_; refine blk_far ?_ NB344_346.out _; refine bk ?_; refine blk_far ?_ NB344_346.out _; refine bk ?_; refine blk_far ?_ NB344_346.out _; refine bk ?_; refine blk_far ?_ NB344_346.out _; refine bk ?_; refine blk_far ?_ NB344_346.out _; refine bk ?_; exact BK344.out) hb); replace BK346 := Aside0.mk (blk_below (g := gb346) (o := .cells #[.string ((rd_T48 l0 x35_3).f0), .int .i64 ((rd_T48 l0 x35_3).f1), .int .i64 ((rd_T48 l0 x35_3).f2), .string ((rd_T48 l0 x35_3).f3), .int .i64 ((rd_T48 l0 x35_3).f4.f0), .int .i64 ((rd_T48 l0 x35_3).f4.f1), .int .i64 ((rd_T48 l0 x35_3).f5.f0), .int .i64 ((rd_T48 l0 x35_3).f5.f1), .bool ((rd_T48 l0 x35_3).f6)] 48 (0, 0)) (by exact rq BK346.out (by rfl)) hb); replace HB := Aside0.mk (below_step (by repeat first | (with_reducible exact HB.out) | refine bl1 ?_ | (with_reducible refine bset ?_ ‹_›) | exact HB.out) hb); (try clear hb); (try clear hb2); (try clear hk); (try clear hi)))
               go_roundg k3
               case measure => have := HK1.out; have := HK2.out; have := HK3.out; omega
               case rel => exact ⟨(x10_3), (wrap64 (x35_3 + 1)), (by first | rfl | (simp; done) | (simp [*]; done)), H', ⟨by have := HK1.out; have := HK2.out; have := HK3.out; omega⟩, ⟨by (with_reducible repeat (first | apply Kd.R_alloc | apply Kd.R_drewN | apply Kd.R_drew)); exact HO_10.out⟩, ⟨by refine bk ?_; exact BK344.out⟩, ⟨by repeat first | (with_reducible exact HB.out) | (with_reducible refine bset ?_ ‹_›) | refine bl1 ?_ | exact HB.out⟩⟩
             ·
              rw [if_neg c22] at H
              exact absurd H (by simp)
            ·
             rw [if_neg c21] at H
             exact absurd H (by simp)
           ·
            rw [if_neg c20] at H
            have c20b0 : decide (x35_3 < (l0.length : Int)) = false := decide_eq_false c20
            clear c20
            have H' := Aside0.mk H
            clear H
            go_wp2
            go_roundg k3
            case measure => have := HK1.out; have := HK2.out; have := HK3.out; omega
            case rel => exact ⟨(x10_3), (wrap64 (x29_2 + 1)), (by first | rfl | (simp; done) | (simp [*]; done)), H', ⟨by have := HK1.out; have := HK2.out; have := HK3.out; omega⟩, ⟨by (with_reducible repeat (first | apply Kd.R_alloc | apply Kd.R_drewN | apply Kd.R_drew)); exact HO_10.out⟩, ⟨by repeat first | (with_reducible exact HB.out) | (with_reducible refine bset ?_ ‹_›) | refine bl1 ?_ | exact HB.out⟩⟩
        ·
         rw [if_neg c17] at H
         exact absurd H (by simp)
       ·
        rw [if_neg c16] at H
        exact absurd H (by simp)
      ·
       rw [if_neg c15] at H
       have c15b0 : decide (x29_2 < (l1.length : Int)) = false := decide_eq_false c15
       clear c15
       simp only [Option.some.injEq, Prod.mk.injEq] at H
       obtain ⟨rfl, rfl⟩ := H
       go_wp2
       go_ret2
       exact ⟨_, by first | rfl | (simp [errW_none, errW_some] <;> rfl) | (simp [*, errW_none, errW_some] <;> rfl), by (with_reducible repeat (first | apply Kd.R_alloc | apply Kd.R_drewN | apply Kd.R_drew)); exact HO_10.out, (bl HB.out)⟩
mutual
def serinetteref21_Events.l0 : Nat → List (S49) → List (S37) → Int → List (S49) → Int → Int → Option ((List (S77)) × Int)
 | 0, _, _, _, _, _, _ => none
 | k + 1, x0, x1, x2, x18, x19, x20 => if x20 < x19 then (if 0 ≤ x20 then (if x20 < (x18.length : Int) then (if ((rd_T49 x18 x20).f0).toList = ([111, 110] : List UInt8) then (serinetteref21_Events.j1 k x0 x1 x2 true x18 x19 x20 ((rd_T49 x18 x20).f0) ((rd_T49 x18 x20).f1) ((rd_T49 x18 x20).f2) ((rd_T49 x18 x20).f3) ((rd_T49 x18 x20).f4.f0) ((rd_T49 x18 x20).f4.f1) ((rd_T49 x18 x20).f5.f0) ((rd_T49 x18 x20).f5.f1) ((rd_T49 x18 x20).f6)) else (if ((rd_T49 x18 x20).f0).toList = ([99, 111, 110, 116, 114, 111, 108] : List UInt8) then (serinetteref21_Events.j1 k x0 x1 x2 true x18 x19 x20 ((rd_T49 x18 x20).f0) ((rd_T49 x18 x20).f1) ((rd_T49 x18 x20).f2) ((rd_T49 x18 x20).f3) ((rd_T49 x18 x20).f4.f0) ((rd_T49 x18 x20).f4.f1) ((rd_T49 x18 x20).f5.f0) ((rd_T49 x18 x20).f5.f1) ((rd_T49 x18 x20).f6)) else (if ((rd_T49 x18 x20).f0).toList = ([98, 101, 110, 100] : List UInt8) then (serinetteref21_Events.j1 k x0 x1 x2 true x18 x19 x20 ((rd_T49 x18 x20).f0) ((rd_T49 x18 x20).f1) ((rd_T49 x18 x20).f2) ((rd_T49 x18 x20).f3) ((rd_T49 x18 x20).f4.f0) ((rd_T49 x18 x20).f4.f1) ((rd_T49 x18 x20).f5.f0) ((rd_T49 x18 x20).f5.f1) ((rd_T49 x18 x20).f6)) else (if ((rd_T49 x18 x20).f0).toList = ([119, 105, 100, 101] : List UInt8) then (serinetteref21_Events.j1 k x0 x1 x2 true x18 x19 x20 ((rd_T49 x18 x20).f0) ((rd_T49 x18 x20).f1) ((rd_T49 x18 x20).f2) ((rd_T49 x18 x20).f3) ((rd_T49 x18 x20).f4.f0) ((rd_T49 x18 x20).f4.f1) ((rd_T49 x18 x20).f5.f0) ((rd_T49 x18 x20).f5.f1) ((rd_T49 x18 x20).f6)) else (serinetteref21_Events.j1 k x0 x1 x2 (((rd_T49 x18 x20).f0).toList == ([107, 101, 121] : List UInt8)) x18 x19 x20 ((rd_T49 x18 x20).f0) ((rd_T49 x18 x20).f1) ((rd_T49 x18 x20).f2) ((rd_T49 x18 x20).f3) ((rd_T49 x18 x20).f4.f0) ((rd_T49 x18 x20).f4.f1) ((rd_T49 x18 x20).f5.f0) ((rd_T49 x18 x20).f5.f1) ((rd_T49 x18 x20).f6)))))) else (none)) else (none)) else (serinetteref21_Events.l1 k x0 x2 ([] : List (S77)) x1 (x1.length : Int) 0)
def serinetteref21_Events.j1 : Nat → List (S49) → List (S37) → Int → Bool → List (S49) → Int → Int → ByteArray → Int → Int → ByteArray → Int → Int → Int → Int → Bool → Option ((List (S77)) × Int)
 | 0, _, _, _, _, _, _, _, _, _, _, _, _, _, _, _, _ => none
 | k + 1, x0, x1, x2, x10, x18, x19, x20, x684000, x684001, x684002, x684003, x684004, x684005, x684006, x684007, x684008 => if x10 = true then ((serinetteref01_Is.f k x684004 x684005).bind fun t684 => (if t684 = true then ((serinetteref01_Is.f k x684006 x684007).bind fun t685 => (if t685 = true then (serinetteref21_Events.l0 k x0 x1 x2 x18 x19 (wrap64 (x20 + 1))) else (some (([] : List (S77)), 2)))) else (some (([] : List (S77)), 2)))) else (some (([] : List (S77)), 2))
def serinetteref21_Events.l1 : Nat → List (S49) → Int → List (S77) → List (S37) → Int → Int → Option ((List (S77)) × Int)
 | 0, _, _, _, _, _, _ => none
 | k + 1, x0, x2, x11, x62, x63, x64 => if x64 < x63 then (if 0 ≤ x64 then (if x64 < (x62.length : Int) then (serinetteref21_Events.l2 k x0 x2 x11 x62 x63 x64 x0 (x0.length : Int) 0 ((rd_T37 x62 x64).f0) ((rd_T37 x62 x64).f1) ((rd_T37 x62 x64).f2) ((rd_T37 x62 x64).f3)) else (none)) else (none)) else (some (x11, 0))
def serinetteref21_Events.l2 : Nat → List (S49) → Int → List (S77) → List (S37) → Int → Int → List (S49) → Int → Int → ByteArray → Int → Int → Int → Option ((List (S77)) × Int)
 | 0, _, _, _, _, _, _, _, _, _, _, _, _, _ => none
 | k + 1, x0, x2, x11, x62, x63, x64, x68, x69, x70, x688000, x688001, x688002, x688003 => if x70 < x69 then (if 0 ≤ x70 then (if x70 < (x68.length : Int) then ((serinetteref21_fits.f ((rd_T49 x68 x70).f0) ((rd_T49 x68 x70).f1) ((rd_T49 x68 x70).f2) ((rd_T49 x68 x70).f3) ((rd_T49 x68 x70).f4.f0) ((rd_T49 x68 x70).f4.f1) ((rd_T49 x68 x70).f5.f0) ((rd_T49 x68 x70).f5.f1) ((rd_T49 x68 x70).f6) x688000 x688001 x688002 x688003).bind fun t690 => (if t690 = true then ((serinetteref21_value.f ((rd_T49 x68 x70).f0) ((rd_T49 x68 x70).f1) ((rd_T49 x68 x70).f2) ((rd_T49 x68 x70).f3) ((rd_T49 x68 x70).f4.f0) ((rd_T49 x68 x70).f4.f1) ((rd_T49 x68 x70).f5.f0) ((rd_T49 x68 x70).f5.f1) ((rd_T49 x68 x70).f6) x688000 x688001 x688002 x688003).bind fun bt691 => (if bt691.2.2 = true then (if x11.length < 3518437208883 then (serinetteref21_Events.l2 k x0 x2 (x11 ++ [(⟨x2, (rd_T49 x68 x70).f3, (⟨bt691.1, bt691.2.1⟩ : S46)⟩ : S77)]) x62 x63 x64 x68 x69 (wrap64 (x70 + 1)) x688000 x688001 x688002 x688003) else (none)) else (serinetteref21_Events.l2 k x0 x2 x11 x62 x63 x64 x68 x69 (wrap64 (x70 + 1)) x688000 x688001 x688002 x688003))) else (serinetteref21_Events.l2 k x0 x2 x11 x62 x63 x64 x68 x69 (wrap64 (x70 + 1)) x688000 x688001 x688002 x688003))) else (none)) else (none)) else (serinetteref21_Events.l1 k x0 x2 x11 x62 x63 (wrap64 (x64 + 1)))
end
def serinetteref21_Events.f (k : Nat) (l0 : List (S49)) (l1 : List (S37)) (a2 : Int) : Option ((List (S77)) × Int) := serinetteref21_Events.l0 k l0 l1 a2 l0 (l0.length : Int) 0
theorem serinetteref21_Events.mono_l : ∀ k, (∀ y0 y1 y2 y3 y4 y5, LeO (serinetteref21_Events.l0 k y0 y1 y2 y3 y4 y5) (serinetteref21_Events.l0 (k + 1) y0 y1 y2 y3 y4 y5)) ∧ (∀ y0 y1 y2 y3 y4 y5 y6 y7 y8 y9 y10 y11 y12 y13 y14 y15, LeO (serinetteref21_Events.j1 k y0 y1 y2 y3 y4 y5 y6 y7 y8 y9 y10 y11 y12 y13 y14 y15) (serinetteref21_Events.j1 (k + 1) y0 y1 y2 y3 y4 y5 y6 y7 y8 y9 y10 y11 y12 y13 y14 y15)) ∧ (∀ y0 y1 y2 y3 y4 y5, LeO (serinetteref21_Events.l1 k y0 y1 y2 y3 y4 y5) (serinetteref21_Events.l1 (k + 1) y0 y1 y2 y3 y4 y5)) ∧ (∀ y0 y1 y2 y3 y4 y5 y6 y7 y8 y9 y10 y11 y12, LeO (serinetteref21_Events.l2 k y0 y1 y2 y3 y4 y5 y6 y7 y8 y9 y10 y11 y12) (serinetteref21_Events.l2 (k + 1) y0 y1 y2 y3 y4 y5 y6 y7 y8 y9 y10 y11 y12))
 | 0 => ⟨fun _ _ _ _ _ _ r h => by simp [serinetteref21_Events.l0] at h, fun _ _ _ _ _ _ _ _ _ _ _ _ _ _ _ _ r h => by simp [serinetteref21_Events.j1] at h, fun _ _ _ _ _ _ r h => by simp [serinetteref21_Events.l1] at h, fun _ _ _ _ _ _ _ _ _ _ _ _ _ r h => by simp [serinetteref21_Events.l2] at h⟩
 | k + 1 => by
  obtain ⟨ih0, ih1, ih2, ih3⟩ := serinetteref21_Events.mono_l k
  refine ⟨?_, ?_, ?_, ?_⟩
  ·
   intro y0 y1 y2 y3 y4 y5
   unfold serinetteref21_Events.l0
   repeat' first
   | (with_reducible exact ih0 _ _ _ _ _ _)
   | (with_reducible exact ih1 _ _ _ _ _ _ _ _ _ _ _ _ _ _ _ _)
   | (with_reducible exact ih2 _ _ _ _ _ _)
   | (with_reducible exact ih3 _ _ _ _ _ _ _ _ _ _ _ _ _)
   | (with_reducible exact serinetteref01_Is.mono _ _ _)
   | (with_reducible exact LeO.refl _)
   | (with_reducible exact LeO.none _)
   | (with_reducible refine LeO.ite ?_ ?_)
   | (with_reducible refine LeO.bind ?_ (fun _ => ?_))
   | exact ih0 _ _ _ _ _ _
   | exact ih1 _ _ _ _ _ _ _ _ _ _ _ _ _ _ _ _
   | exact ih2 _ _ _ _ _ _
   | exact ih3 _ _ _ _ _ _ _ _ _ _ _ _ _
   | exact serinetteref01_Is.mono _ _ _
   | exact LeO.none _
   | refine LeO.ite ?_ ?_
   | refine LeO.bind ?_ (fun _ => ?_)
  ·
   intro y0 y1 y2 y3 y4 y5 y6 y7 y8 y9 y10 y11 y12 y13 y14 y15
   unfold serinetteref21_Events.j1
   repeat' first
   | (with_reducible exact ih0 _ _ _ _ _ _)
   | (with_reducible exact ih1 _ _ _ _ _ _ _ _ _ _ _ _ _ _ _ _)
   | (with_reducible exact ih2 _ _ _ _ _ _)
   | (with_reducible exact ih3 _ _ _ _ _ _ _ _ _ _ _ _ _)
   | (with_reducible exact serinetteref01_Is.mono _ _ _)
   | (with_reducible exact LeO.refl _)
   | (with_reducible exact LeO.none _)
   | (with_reducible refine LeO.ite ?_ ?_)
   | (with_reducible refine LeO.bind ?_ (fun _ => ?_))
   | exact ih0 _ _ _ _ _ _
   | exact ih1 _ _ _ _ _ _ _ _ _ _ _ _ _ _ _ _
   | exact ih2 _ _ _ _ _ _
   | exact ih3 _ _ _ _ _ _ _ _ _ _ _ _ _
   | exact serinetteref01_Is.mono _ _ _
   | exact LeO.none _
   | refine LeO.ite ?_ ?_
   | refine LeO.bind ?_ (fun _ => ?_)
  ·
   intro y0 y1 y2 y3 y4 y5
   unfold serinetteref21_Events.l1
   repeat' first
   | (with_reducible exact ih0 _ _ _ _ _ _)
   | (with_reducible exact ih1 _ _ _ _ _ _ _ _ _ _ _ _ _ _ _ _)
   | (with_reducible exact ih2 _ _ _ _ _ _)
   | (with_reducible exact ih3 _ _ _ _ _ _ _ _ _ _ _ _ _)
   | (with_reducible exact serinetteref01_Is.mono _ _ _)
   | (with_reducible exact LeO.refl _)
   | (with_reducible exact LeO.none _)
   | (with_reducible refine LeO.ite ?_ ?_)
   | (with_reducible refine LeO.bind ?_ (fun _ => ?_))
   | exact ih0 _ _ _ _ _ _
   | exact ih1 _ _ _ _ _ _ _ _ _ _ _ _ _ _ _ _
   | exact ih2 _ _ _ _ _ _
   | exact ih3 _ _ _ _ _ _ _ _ _ _ _ _ _
   | exact serinetteref01_Is.mono _ _ _
   | exact LeO.none _
   | refine LeO.ite ?_ ?_
   | refine LeO.bind ?_ (fun _ => ?_)
  ·
   intro y0 y1 y2 y3 y4 y5 y6 y7 y8 y9 y10 y11 y12
   unfold serinetteref21_Events.l2
   repeat' first
   | (with_reducible exact ih0 _ _ _ _ _ _)
   | (with_reducible exact ih1 _ _ _ _ _ _ _ _ _ _ _ _ _ _ _ _)
   | (with_reducible exact ih2 _ _ _ _ _ _)
   | (with_reducible exact ih3 _ _ _ _ _ _ _ _ _ _ _ _ _)
   | (with_reducible exact serinetteref01_Is.mono _ _ _)
   | (with_reducible exact LeO.refl _)
   | (with_reducible exact LeO.none _)
   | (with_reducible refine LeO.ite ?_ ?_)
   | (with_reducible refine LeO.bind ?_ (fun _ => ?_))
   | exact ih0 _ _ _ _ _ _
   | exact ih1 _ _ _ _ _ _ _ _ _ _ _ _ _ _ _ _
   | exact ih2 _ _ _ _ _ _
   | exact ih3 _ _ _ _ _ _ _ _ _ _ _ _ _
   | exact serinetteref01_Is.mono _ _ _
   | exact LeO.none _
   | refine LeO.ite ?_ ?_
   | refine LeO.bind ?_ (fun _ => ?_)
theorem serinetteref21_Events.mono : ∀ a0 a1 a2 k, LeO (serinetteref21_Events.f k a0 a1 a2) (serinetteref21_Events.f (k + 1) a0 a1 a2) := by
 intro a0 a1 a2 k
 obtain ⟨ih0, ih1, ih2, ih3⟩ := serinetteref21_Events.mono_l k
 unfold serinetteref21_Events.f
 repeat' first
   | (with_reducible exact ih0 _ _ _ _ _ _)
   | (with_reducible exact ih1 _ _ _ _ _ _ _ _ _ _ _ _ _ _ _ _)
   | (with_reducible exact ih2 _ _ _ _ _ _)
   | (with_reducible exact ih3 _ _ _ _ _ _ _ _ _ _ _ _ _)
   | (with_reducible exact serinetteref01_Is.mono _ _ _)
   | (with_reducible exact LeO.refl _)
   | (with_reducible exact LeO.none _)
   | (with_reducible refine LeO.ite ?_ ?_)
   | (with_reducible refine LeO.bind ?_ (fun _ => ?_))
   | exact ih0 _ _ _ _ _ _
   | exact ih1 _ _ _ _ _ _ _ _ _ _ _ _ _ _ _ _
   | exact ih2 _ _ _ _ _ _
   | exact ih3 _ _ _ _ _ _ _ _ _ _ _ _ _
   | exact serinetteref01_Is.mono _ _ _
   | exact LeO.none _
   | refine LeO.ite ?_ ?_
   | refine LeO.bind ?_ (fun _ => ?_)
end Go.Proofs.Ytlaidcoickeihaa.SEventsMade
