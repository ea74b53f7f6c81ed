/- How the reference's reader of messages walks: what its functions come to, byte for byte. -/
import Derived.Test.YtlaidcoickeihaaRReaderFeeds
namespace Go.Proofs.Ytlaidcoickeihaa.PReaderFeeds.Rf
open Go.RowKit Go.Proofs.YtlaidcoickeihaaW.PrintWords Go.Proofs.YtlaidcoickeihaaW.PrintLast Go.Proofs.YtlaidcoickeihaaW.PrintMore
set_option linter.unusedVariables false
set_option linter.unusedSimpArgs false


/-- The cells of a reader: the status, the data, 512 last values, and a mark. -/
def rdCells (st : Int) (d : Value) (hi : List Int) : Array Value := (.int .i64 st :: d :: nums .i64 hi).toArray

/-- A reader in memory. -/
structure Rd (w : World) (B g : Nat) (st : Int) (dv : Value) (xs hi : List Int) : Prop where
  cells : w.heap[g]? = some (.cells (rdCells st dv hi) 62 (0, 0))
  own : Kd.R (Kd.int .i64) 3 w B (fun _ => True) dv xs
  len : hi.length = 512
  base : B ≤ g
  top : B ≤ w.heap.size

theorem rd_c0 {w : World} {B g : Nat} {st : Int} {dv : Value} {xs hi : List Int} (h : Rd w B g st dv xs hi) : w.cell? ⟨g, 0, none⟩ = some (.int .i64 st) := by
  rw [blk_cell h.cells]; rfl
theorem rd_c1 {w : World} {B g : Nat} {st : Int} {dv : Value} {xs hi : List Int} (h : Rd w B g st dv xs hi) : w.cell? ⟨g, 1, none⟩ = some dv := by
  rw [blk_cell h.cells]; rfl
theorem rd_hi {w : World} {B g : Nat} {st : Int} {dv : Value} {xs hi : List Int} (h : Rd w B g st dv xs hi) (i : Nat) (hi' : i < 512) : w.cell? ⟨g, 2 + i, none⟩ = some (.int .i64 (hi.getD i 0)) := by
  rw [blk_cell h.cells, rdCells]
  rw [show 2 + i = i + 2 from by omega]
  simp only [List.getElem?_toArray, List.getElem?_cons_succ]
  simp [nums, List.getD_eq_getElem?_getD, List.getElem?_eq_getElem (show i < hi.length by rw [h.len]; exact hi')]
theorem rd_fr {w : World} {B g : Nat} {st : Int} {dv : Value} {xs hi : List Int} (h : Rd w B g st dv xs hi) (i : Nat) : w.frozen? ⟨g, i, none⟩ = false := blk_frozen h.cells i
attribute [local go_sem] cell_mk frozen_mk
set_option maxHeartbeats 8000000 in
set_option maxRecDepth 100000 in
theorem complete_off (w : World) (g : Nat) (st a b : Int) (gd o cap : Nat) (h0 : 0 ≤ st) (h1 : st ≤ 255) (hk : st / 16 = 8) (hrm : st % 16 = st % 16)
    (hc0 : w.cell? ⟨g, 0, none⟩ = some (.int .i64 st)) (hc1 : w.cell? ⟨g, 1, none⟩ = some (.slice (some ⟨gd, o, none⟩) 2 cap))
    (ha : w.cell? ⟨gd, o, none⟩ = some (.int .i64 a)) (hb : w.cell? ⟨gd, o + 1, none⟩ = some (.int .i64 b)) :
    Calls Try.prog 28 #[.pointer (some ⟨g, 0, none⟩)] w fun e w' => ∃ v0_ : Value, e = .returned v0_ ∧ Kd.R k37 37 w' w.heap.size (fun _ => True) v0_ [⟨⟨#[111, 102, 102]⟩, st % 16, a, b⟩] ∧ Below w.heap.size w w' := by
  clear hrm
  go_enter Try.func28, Try.ntmps28
  go_wp2
  go_quiet (fail)
  have HB := Aside0.mk (pw_below_drewN (Below.refl w.heap.size w) nq)
  have HS := Aside0.mk (show w.heap.size ≤ (w.drewN nq).heap.size from Nat.le_refl _)
  go_wp2_with ((with_reducible refine gate_dst (N := 41) rfl ?_); refine Kd.R_lit k37 w.heap.size 37 ?hg (N := 41) ?hd (xs := ([⟨⟨#[111, 102, 102]⟩, st % 16, a, b⟩] : List S37)) (inner := [.string ⟨#[111, 102, 102]⟩, .int .i64 (st % 16), .int .i64 (a), .int .i64 (b)]) (ok := fun _ => True) (okp := fun _ => True) ?hr ?hp (fun _ hk => hk) trivial HB.out HS.out (by simp) ?_; (case hd => rfl); (case hg => rfl); (case hr => first | (go_simp; done) | (go_simp; rfl)); (case hp => exact reps1 (k37_mkM _ _ _ ⟨_, _, _, _⟩)); intro v135 w5 ho6 hb' hg_ hnew_; have HN := Aside0.mk hg_.size; clear hg_ hnew_; have HO := Aside0.mk ho6; clear HB; have HB := Aside0.mk hb'; clear hb' ho6)
  go_ret
  exact ⟨_, rfl, HO.out, HB.out⟩
set_option maxHeartbeats 8000000 in
set_option maxRecDepth 100000 in
theorem complete_on0 (w : World) (g : Nat) (st a b : Int) (gd o cap : Nat) (h0 : 0 ≤ st) (h1 : st ≤ 255) (hk : st / 16 = 9) (hb0 : b = 0) (hrm : st % 16 = st % 16)
    (hc0 : w.cell? ⟨g, 0, none⟩ = some (.int .i64 st)) (hc1 : w.cell? ⟨g, 1, none⟩ = some (.slice (some ⟨gd, o, none⟩) 2 cap))
    (ha : w.cell? ⟨gd, o, none⟩ = some (.int .i64 a)) (hb : w.cell? ⟨gd, o + 1, none⟩ = some (.int .i64 b)) :
    Calls Try.prog 28 #[.pointer (some ⟨g, 0, none⟩)] w fun e w' => ∃ v0_ : Value, e = .returned v0_ ∧ Kd.R k37 37 w' w.heap.size (fun _ => True) v0_ [⟨⟨#[111, 102, 102]⟩, st % 16, a, 64⟩] ∧ Below w.heap.size w w' := by
  clear hrm
  subst hb0
  go_enter Try.func28, Try.ntmps28
  go_wp2
  go_quiet (fail)
  have HB := Aside0.mk (pw_below_drewN (Below.refl w.heap.size w) nq)
  have HS := Aside0.mk (show w.heap.size ≤ (w.drewN nq).heap.size from Nat.le_refl _)
  go_wp2_with ((with_reducible refine gate_dst (N := 49) rfl ?_); refine Kd.R_lit k37 w.heap.size 37 ?hg (N := 49) ?hd (xs := ([⟨⟨#[111, 102, 102]⟩, st % 16, a, 64⟩] : List S37)) (inner := [.string ⟨#[111, 102, 102]⟩, .int .i64 (st % 16), .int .i64 (a), .int .i64 (64)]) (ok := fun _ => True) (okp := fun _ => True) ?hr ?hp (fun _ hk => hk) trivial HB.out HS.out (by simp) ?_; (case hd => rfl); (case hg => rfl); (case hr => first | (go_simp; done) | (go_simp; rfl)); (case hp => exact reps1 (k37_mkM _ _ _ ⟨_, _, _, _⟩)); intro v135 w5 ho6 hb' hg_ hnew_; have HN := Aside0.mk hg_.size; clear hg_ hnew_; have HO := Aside0.mk ho6; clear HB; have HB := Aside0.mk hb'; clear hb' ho6)
  go_ret
  exact ⟨_, rfl, HO.out, HB.out⟩
set_option maxHeartbeats 8000000 in
set_option maxRecDepth 100000 in
theorem complete_on (w : World) (g : Nat) (st a b : Int) (gd o cap : Nat) (h0 : 0 ≤ st) (h1 : st ≤ 255) (hk : st / 16 = 9) (hb0 : (b == 0) = false) (hrm : st % 16 = st % 16)
    (hc0 : w.cell? ⟨g, 0, none⟩ = some (.int .i64 st)) (hc1 : w.cell? ⟨g, 1, none⟩ = some (.slice (some ⟨gd, o, none⟩) 2 cap))
    (ha : w.cell? ⟨gd, o, none⟩ = some (.int .i64 a)) (hb : w.cell? ⟨gd, o + 1, none⟩ = some (.int .i64 b)) :
    Calls Try.prog 28 #[.pointer (some ⟨g, 0, none⟩)] w fun e w' => ∃ v0_ : Value, e = .returned v0_ ∧ Kd.R k37 37 w' w.heap.size (fun _ => True) v0_ [⟨⟨#[111, 110]⟩, st % 16, a, b⟩] ∧ Below w.heap.size w w' := by
  clear hrm
  go_enter Try.func28, Try.ntmps28
  go_wp2
  go_quiet (fail)
  have HB := Aside0.mk (pw_below_drewN (Below.refl w.heap.size w) nq)
  have HS := Aside0.mk (show w.heap.size ≤ (w.drewN nq).heap.size from Nat.le_refl _)
  go_wp2_with ((with_reducible refine gate_dst (N := 54) rfl ?_); refine Kd.R_lit k37 w.heap.size 37 ?hg (N := 54) ?hd (xs := ([⟨⟨#[111, 110]⟩, st % 16, a, b⟩] : List S37)) (inner := [.string ⟨#[111, 110]⟩, .int .i64 (st % 16), .int .i64 (a), .int .i64 (b)]) (ok := fun _ => True) (okp := fun _ => True) ?hr ?hp (fun _ hk => hk) trivial HB.out HS.out (by simp) ?_; (case hd => rfl); (case hg => rfl); (case hr => first | (go_simp; done) | (go_simp; rfl)); (case hp => exact reps1 (k37_mkM _ _ _ ⟨_, _, _, _⟩)); intro v135 w5 ho6 hb' hg_ hnew_; have HN := Aside0.mk hg_.size; clear hg_ hnew_; have HO := Aside0.mk ho6; clear HB; have HB := Aside0.mk hb'; clear hb' ho6)
  go_ret
  exact ⟨_, rfl, HO.out, HB.out⟩
set_option maxHeartbeats 8000000 in
set_option maxRecDepth 100000 in
theorem complete_bend (w : World) (g : Nat) (st a b : Int) (gd o cap : Nat) (h0 : 0 ≤ st) (h1 : st ≤ 255) (hk : st / 16 = 14) (hrm : st % 16 = st % 16)
    (hc0 : w.cell? ⟨g, 0, none⟩ = some (.int .i64 st)) (hc1 : w.cell? ⟨g, 1, none⟩ = some (.slice (some ⟨gd, o, none⟩) 2 cap))
    (ha : w.cell? ⟨gd, o, none⟩ = some (.int .i64 a)) (hb : w.cell? ⟨gd, o + 1, none⟩ = some (.int .i64 b)) :
    Calls Try.prog 28 #[.pointer (some ⟨g, 0, none⟩)] w fun e w' => ∃ v0_ : Value, e = .returned v0_ ∧ Kd.R k37 37 w' w.heap.size (fun _ => True) v0_ [⟨⟨#[98, 101, 110, 100]⟩, st % 16, 0, wrap64 (a + wrap64 (128 * b))⟩] ∧ Below w.heap.size w w' := by
  clear hrm
  go_enter Try.func28, Try.ntmps28
  go_wp2
  go_quiet (fail)
  have HB := Aside0.mk (pw_below_drewN (Below.refl w.heap.size w) nq)
  have HS := Aside0.mk (show w.heap.size ≤ (w.drewN nq).heap.size from Nat.le_refl _)
  go_wp2_with ((with_reducible refine gate_dst (N := 102) rfl ?_); refine Kd.R_lit k37 w.heap.size 37 ?hg (N := 102) ?hd (xs := ([⟨⟨#[98, 101, 110, 100]⟩, st % 16, 0, wrap64 (a + wrap64 (128 * b))⟩] : List S37)) (inner := [.string ⟨#[98, 101, 110, 100]⟩, .int .i64 (st % 16), .int .i64 (0), .int .i64 (wrap64 (a + wrap64 (128 * b)))]) (ok := fun _ => True) (okp := fun _ => True) ?hr ?hp (fun _ hk => hk) trivial HB.out HS.out (by simp) ?_; (case hd => rfl); (case hg => rfl); (case hr => first | (go_simp; done) | (go_simp; rfl)); (case hp => exact reps1 (k37_mkM _ _ _ ⟨_, _, _, _⟩)); intro v135 w5 ho6 hb' hg_ hnew_; have HN := Aside0.mk hg_.size; clear hg_ hnew_; have HO := Aside0.mk ho6; clear HB; have HB := Aside0.mk hb'; clear hb' ho6)
  go_ret
  exact ⟨_, rfl, HO.out, HB.out⟩
set_option maxHeartbeats 8000000 in
set_option maxRecDepth 100000 in
theorem complete_one' (w : World) (g : Nat) (st a : Int) (gd o cap : Nat) (h0 : 0 ≤ st) (h1 : st ≤ 255) (h8 : (st / 16 == 8) = false) (h9 : (st / 16 == 9) = false) (h11 : (st / 16 == 11) = false) (h14 : (st / 16 == 14) = false)
    (hc0 : w.cell? ⟨g, 0, none⟩ = some (.int .i64 st)) (hc1 : w.cell? ⟨g, 1, none⟩ = some (.slice (some ⟨gd, o, none⟩) 1 cap))
    (ha : w.cell? ⟨gd, o, none⟩ = some (.int .i64 a)) :
    Calls Try.prog 28 #[.pointer (some ⟨g, 0, none⟩)] w fun e w' => e = .returned (.slice none 0 0) ∧ Below w.heap.size w w' := by
  go_enter Try.func28, Try.ntmps28
  go_wp2
  go_quiet (fail)
  have HB := Aside0.mk (pw_below_drewN (Below.refl w.heap.size w) nq)
  go_wp2
  go_ret
  exact ⟨rfl, HB.out⟩
set_option maxHeartbeats 8000000 in
set_option maxRecDepth 100000 in
theorem complete_two' (w : World) (g : Nat) (st a b : Int) (gd o cap : Nat) (h0 : 0 ≤ st) (h1 : st ≤ 255) (h8 : (st / 16 == 8) = false) (h9 : (st / 16 == 9) = false) (h11 : (st / 16 == 11) = false) (h14 : (st / 16 == 14) = false)
    (hc0 : w.cell? ⟨g, 0, none⟩ = some (.int .i64 st)) (hc1 : w.cell? ⟨g, 1, none⟩ = some (.slice (some ⟨gd, o, none⟩) 2 cap))
    (ha : w.cell? ⟨gd, o, none⟩ = some (.int .i64 a)) (hb : w.cell? ⟨gd, o + 1, none⟩ = some (.int .i64 b)) :
    Calls Try.prog 28 #[.pointer (some ⟨g, 0, none⟩)] w fun e w' => e = .returned (.slice none 0 0) ∧ Below w.heap.size w w' := by
  go_enter Try.func28, Try.ntmps28
  go_wp2
  go_quiet (fail)
  have HB := Aside0.mk (pw_below_drewN (Below.refl w.heap.size w) nq)
  go_wp2
  go_ret
  exact ⟨rfl, HB.out⟩
set_option maxHeartbeats 8000000 in
set_option maxRecDepth 100000 in
theorem complete_c64 (w : World) (g : Nat) (st a b : Int) (gd o cap : Nat) (h0 : 0 ≤ st) (h1 : st ≤ 255) (hk : st / 16 = 11) (ha1 : decide (a < 32) = false) (ha2 : decide (a < 64) = false)
    (hc0 : w.cell? ⟨g, 0, none⟩ = some (.int .i64 st)) (hc1 : w.cell? ⟨g, 1, none⟩ = some (.slice (some ⟨gd, o, none⟩) 2 cap))
    (ha : w.cell? ⟨gd, o, none⟩ = some (.int .i64 a)) (hb : w.cell? ⟨gd, o + 1, none⟩ = some (.int .i64 b)) :
    Calls Try.prog 28 #[.pointer (some ⟨g, 0, none⟩)] w fun e w' => ∃ v0_ : Value, e = .returned v0_ ∧ Kd.R k37 37 w' w.heap.size (fun _ => True) v0_ [⟨⟨#[99, 111, 110, 116, 114, 111, 108]⟩, st % 16, a, b⟩] ∧ Below w.heap.size w w' := by
  go_enter Try.func28, Try.ntmps28
  go_wp2
  go_quiet (fail)
  have HB := Aside0.mk (pw_below_drewN (Below.refl w.heap.size w) nq)
  have HS := Aside0.mk (show w.heap.size ≤ (w.drewN nq).heap.size from Nat.le_refl _)
  go_wp2_with ((with_reducible refine gate_dst (N := 61) rfl ?_); refine Kd.R_lit k37 w.heap.size 37 ?hg (N := 61) ?hd (xs := ([⟨⟨#[99, 111, 110, 116, 114, 111, 108]⟩, st % 16, a, b⟩] : List S37)) (inner := [.string ⟨#[99, 111, 110, 116, 114, 111, 108]⟩, .int .i64 (st % 16), .int .i64 a, .int .i64 b]) (ok := fun _ => True) (okp := fun _ => True) ?hr ?hp (fun _ hk => hk) trivial HB.out HS.out (by simp) ?_; (case hd => rfl); (case hg => rfl); (case hr => first | (go_simp; done) | (go_simp; rfl)); (case hp => exact reps1 (k37_mkM _ _ _ ⟨_, _, _, _⟩)); intro v135 w5 ho6 hb' hg_ hnew_; have HN := Aside0.mk hg_.size; clear hg_ hnew_; have HO := Aside0.mk ho6; clear HB; have HB := Aside0.mk hb'; clear hb' ho6)
  go_ret
  exact ⟨_, rfl, HO.out, HB.out⟩
set_option maxHeartbeats 8000000 in
set_option maxRecDepth 100000 in
theorem complete_c32 (w : World) (g : Nat) (st a b v : Int) (gd o cap : Nat) (h0 : 0 ≤ st) (h1 : st ≤ 255) (hk : st / 16 = 11) (ha0 : 0 ≤ a) (ha1 : decide (a < 32) = true) (ha2 : a < 32) (hs0 : 0 ≤ st % 16) (hs1 : st % 16 < 16)
    (hch : w.cell? ⟨g, 2 + (st % 16).toNat * 32 + a.toNat, none⟩ = some (.int .i64 v))
    (hfh : w.frozen? ⟨g, 2 + (st % 16).toNat * 32 + a.toNat, none⟩ = false)
    (hc0 : w.cell? ⟨g, 0, none⟩ = some (.int .i64 st)) (hc1 : w.cell? ⟨g, 1, none⟩ = some (.slice (some ⟨gd, o, none⟩) 2 cap))
    (ha : w.cell? ⟨gd, o, none⟩ = some (.int .i64 a)) (hb : w.cell? ⟨gd, o + 1, none⟩ = some (.int .i64 b)) :
    Calls Try.prog 28 #[.pointer (some ⟨g, 0, none⟩)] w fun e w' => ∃ v0_ : Value, e = .returned v0_ ∧ ∃ W, Kd.R k37 37 W w.heap.size (fun _ => True) v0_ [⟨⟨#[99, 111, 110, 116, 114, 111, 108]⟩, st % 16, a, b⟩] ∧ Below w.heap.size w W ∧ w' = W.setCell ⟨g, 2 + (st % 16).toNat * 32 + a.toNat, none⟩ (.int .i64 b) := by
  have HDg := Aside0.mk (World.block_lt_of_cell? w _ hch)
  go_enter Try.func28, Try.ntmps28
  go_wp2
  go_quiet (fail)
  have HB := Aside0.mk (pw_below_drewN (Below.refl w.heap.size w) nq)
  have HS := Aside0.mk (show w.heap.size ≤ (w.drewN nq).heap.size from Nat.le_refl _)
  go_wp2_with ((with_reducible refine gate_dst (N := 61) rfl ?_); refine Kd.R_lit k37 w.heap.size 37 ?hg (N := 61) ?hd (xs := ([⟨⟨#[99, 111, 110, 116, 114, 111, 108]⟩, st % 16, a, b⟩] : List S37)) (inner := [.string ⟨#[99, 111, 110, 116, 114, 111, 108]⟩, .int .i64 (st % 16), .int .i64 a, .int .i64 b]) (ok := fun _ => True) (okp := fun _ => True) ?hr ?hp (fun _ hk => hk) trivial HB.out HS.out (by simp) ?_; (case hd => rfl); (case hg => rfl); (case hr => first | (go_simp; done) | (go_simp; rfl)); (case hp => exact reps1 (k37_mkM _ _ _ ⟨_, _, _, _⟩)); intro v135 w5 ho6 hb' hg_ hnew_; have HN := Aside0.mk hg_.size; clear hg_ hnew_; have HO := Aside0.mk ho6; clear HB; have HB := Aside0.mk hb'; clear hb' ho6; have hch5 := (HB.out.cell HDg.out).trans hch; have hfh5 := (HB.out.frozen HDg.out).trans hfh)
  go_ret
  exact ⟨_, rfl, _, HO.out, HB.out, rfl⟩
set_option maxHeartbeats 8000000 in
set_option maxRecDepth 100000 in
theorem complete_c48 (w : World) (g : Nat) (st a b v : Int) (gd o cap : Nat) (h0 : 0 ≤ st) (h1 : st ≤ 255) (hk : st / 16 = 11) (ha0 : 0 ≤ a - 32) (ha0' : 32 ≤ a) (ha1 : decide (a < 32) = false) (ha3 : decide (a < 64) = true) (ha2 : a - 32 < 32) (hsub : IntKind.i64.wrap (a - 32) = a - 32) (hs0 : 0 ≤ st % 16) (hs1 : st % 16 < 16)
    (hch : w.cell? ⟨g, 2 + (st % 16).toNat * 32 + (a - 32).toNat, none⟩ = some (.int .i64 v))
    (hfh : w.frozen? ⟨g, 2 + (st % 16).toNat * 32 + (a - 32).toNat, none⟩ = false)
    (hc0 : w.cell? ⟨g, 0, none⟩ = some (.int .i64 st)) (hc1 : w.cell? ⟨g, 1, none⟩ = some (.slice (some ⟨gd, o, none⟩) 2 cap))
    (ha : w.cell? ⟨gd, o, none⟩ = some (.int .i64 a)) (hb : w.cell? ⟨gd, o + 1, none⟩ = some (.int .i64 b)) :
    Calls Try.prog 28 #[.pointer (some ⟨g, 0, none⟩)] w fun e w' => ∃ v0_ : Value, e = .returned v0_ ∧ Kd.R k37 37 w' w.heap.size (fun _ => True) v0_ [⟨⟨#[99, 111, 110, 116, 114, 111, 108]⟩, st % 16, a, b⟩, ⟨⟨#[119, 105, 100, 101]⟩, st % 16, a - 32, wrap64 (wrap64 (128 * v) + b)⟩] ∧ Below w.heap.size w w' := by
  have HDg := Aside0.mk (World.block_lt_of_cell? w _ hch)
  go_enter Try.func28, Try.ntmps28
  go_wp2
  go_quiet (fail)
  have HB := Aside0.mk (pw_below_drewN (Below.refl w.heap.size w) nq)
  have HS := Aside0.mk (show w.heap.size ≤ (w.drewN nq).heap.size from Nat.le_refl _)
  go_wp2_with (first | ((with_reducible refine gate_dst (N := 61) rfl ?_); refine Kd.R_lit k37 w.heap.size 37 ?hg (N := 61) ?hd (xs := ([⟨⟨#[99, 111, 110, 116, 114, 111, 108]⟩, st % 16, a, b⟩] : List S37)) (inner := [.string ⟨#[99, 111, 110, 116, 114, 111, 108]⟩, .int .i64 (st % 16), .int .i64 a, .int .i64 b]) (ok := fun _ => True) (okp := fun _ => True) ?hr ?hp (fun _ hk => hk) trivial HB.out HS.out (by simp) ?_; (case hd => rfl); (case hg => rfl); (case hr => first | (go_simp; done) | (go_simp; rfl)); (case hp => exact reps1 (k37_mkM _ _ _ ⟨_, _, _, _⟩)); intro v135 w5 ho6 hb' hg_ hnew_; have HN := Aside0.mk hg_.size; clear hg_ hnew_; have HO := Aside0.mk ho6; clear HB; have HB := Aside0.mk hb'; clear hb' ho6; have hch5 := (HB.out.cell HDg.out).trans hch; have hfh5 := (HB.out.frozen HDg.out).trans hfh) | (at_builtin; go_loud (refine Kd.R_append k37 (w0 := w) w.heap.size rfl (.tmp 74) (.tmp 91) 25 37 (.agg #[(.string ⟨#[]⟩), (.int .i64 0), (.int .i64 0), (.int .i64 0)]) 40 rfl Try.underlying25 infoM37 rfl (by decide) (by omega) v135 [⟨⟨#[99, 111, 110, 116, 114, 111, 108]⟩, st % 16, a, b⟩] (⟨⟨#[119, 105, 100, 101]⟩, st % 16, a - 32, wrap64 (wrap64 (128 * v) + b)⟩ : S37) [.string ⟨#[119, 105, 100, 101]⟩, .int .i64 (st % 16), .int .i64 (a - 32), .int .i64 (wrap64 (wrap64 (128 * v) + b))] (fun _ => True) (fun _ => False) rfl (by first | (go_simp; done) | (go_simp; rfl)) (k37_mkM _ _ _ ⟨_, _, _, _⟩) (fun _ hk => hk.elim) (fun _ _ => trivial) HO.out HB.out (Nat.le_trans HS.out HN.out) (by simp) ?_); intro v1 w1 hr1 hb1 hg1 hat1; have HO1 := Aside0.mk hr1; have HB1 := Aside0.mk hb1; clear hr1 hb1 hg1 hat1))
  go_ret
  exact ⟨_, rfl, HO1.out, HB1.out⟩

theorem Rd.below {w w' : World} {B g : Nat} {st : Int} {dv : Value} {xs hi : List Int} (h : Rd w B g st dv xs hi) (hb : Below w.heap.size w w') : Rd w' B g st dv xs hi :=
  ⟨(hb.block g (blk_lt h.cells)).trans h.cells, Kd.R_below h.own hb, h.len, h.base, Nat.le_trans h.top hb.size⟩
theorem Rd.setHi {w : World} {B g : Nat} {st : Int} {dv : Value} {xs hi : List Int} (h : Rd w B g st dv xs hi) (i : Nat) (hi' : i < 512) (v : Int) : Rd (w.setCell ⟨g, 2 + i, none⟩ (.int .i64 v)) B g st dv xs (hi.set i v) := by
  refine ⟨?_, Kd.R_set h.own h.cells (by decide) _ _, by rw [List.length_set]; exact h.len, h.base, by rw [World.setCell]; simpa using h.top⟩
  rw [blk_set h.cells, rdCells, rdCells]
  congr 2
  rw [List.setIfInBounds_toArray, show 2 + i = i + 2 from by omega]
  simp only [List.set_cons_succ]
  simp [nums, List.map_set]
theorem Rd.setSt {w : World} {B g : Nat} {st : Int} {dv : Value} {xs hi : List Int} (h : Rd w B g st dv xs hi) (v : Int) : Rd (w.setCell ⟨g, 0, none⟩ (.int .i64 v)) B g v dv xs hi := by
  refine ⟨?_, Kd.R_set h.own h.cells (by decide) _ _, h.len, h.base, by rw [World.setCell]; simpa using h.top⟩
  rw [blk_set h.cells, rdCells, rdCells]
  rfl
theorem Rd.setNil {w : World} {B g : Nat} {st : Int} {dv : Value} {xs hi : List Int} (h : Rd w B g st dv xs hi) : Rd (w.setCell ⟨g, 1, none⟩ (.slice none 0 0)) B g st (.slice none 0 0) [] hi := by
  refine ⟨?_, Kd.R_nil _ _ _ _ _, h.len, h.base, by rw [World.setCell]; simpa using h.top⟩
  rw [blk_set h.cells, rdCells, rdCells]
  rfl
theorem rd_data {w : World} {B g : Nat} {st : Int} {dv : Value} {xs hi : List Int} (h : Rd w B g st dv xs hi) : ∃ A c, dv = .slice A xs.length c ∧ xs.length ≤ c ∧ Kd.C (Kd.int .i64) w A xs.length xs := Kd.R_reads h.own
theorem rd_gd {w : World} {B g : Nat} {st : Int} {dv : Value} {xs hi : List Int} (h : Rd w B g st dv xs hi) (hp : 0 < xs.length) : ∃ gd c, dv = .slice (some ⟨gd, 0, none⟩) xs.length c ∧ Kd.C (Kd.int .i64) w (some ⟨gd, 0, none⟩) xs.length xs := by
  obtain ⟨A, c, rfl, hc, hC⟩ := rd_data h
  obtain ⟨_, inner, ⟨hl, hcase⟩, hr⟩ := h.own
  rcases hcase with ⟨h1, h2⟩ | ⟨gd, cap, cur, he, _⟩
  · omega
  · cases he
    exact ⟨gd, _, rfl, hC⟩
theorem rd_two {w : World} {B g : Nat} {st : Int} {dv : Value} {a b : Int} {hi : List Int} (h : Rd w B g st dv [a, b] hi) : ∃ gd c, dv = .slice (some ⟨gd, 0, none⟩) 2 c ∧ w.cell? ⟨gd, 0, none⟩ = some (.int .i64 a) ∧ w.cell? ⟨gd, 0 + 1, none⟩ = some (.int .i64 b) := by
  obtain ⟨gd, c, hd, hC⟩ := rd_gd h (by simp)
  obtain ⟨_, e, h0⟩ := Kd.at_int hC 0 (by omega) (by simp)
  cases e
  obtain ⟨_, e, h1⟩ := Kd.at_int hC 1 (by omega) (by simp)
  cases e
  refine ⟨gd, c, hd, ?_, ?_⟩
  · simpa [Addr.add, rd] using h0
  · simpa [Addr.add, rd] using h1
/-- What a call that completes comes to. -/
def Done (B g : Nat) (st : Int) (dv : Value) (xs hi' : List Int) (ms : List S37) (w : World) (e : Ending) (w' : World) : Prop :=
  ∃ v0_ : Value, e = .returned v0_ ∧ Kd.R k37 37 w' w.heap.size (fun _ => True) v0_ ms ∧ Rd w' B g st dv xs hi' ∧ Below B w w' ∧ KeepBut w w' g none
theorem Done.of_below {B g : Nat} {st : Int} {dv : Value} {xs hi : List Int} {ms : List S37} {w w' : World} {v : Value} (H : Rd w B g st dv xs hi) (hr : Kd.R k37 37 w' w.heap.size (fun _ => True) v ms) (hb : Below w.heap.size w w') : Done B g st dv xs hi ms w (.returned v) w' :=
  ⟨v, rfl, hr, H.below hb, hb.mono H.top, KeepBut.of_below hb g none⟩
theorem complete_any (w : World) (B g : Nat) (st a b : Int) (dv : Value) (hi : List Int) (h0 : 128 ≤ st) (h1 : st ≤ 239) (ha0 : 0 ≤ a) (ha1 : a ≤ 127) (hb0 : 0 ≤ b) (hb1 : b ≤ 127) (H : Rd w B g st dv [a, b] hi) :
    Calls Try.prog 28 #[.pointer (some ⟨g, 0, none⟩)] w (Done B g st dv [a, b] (hiOf st a b hi) (msgsOf st a b hi) w) := by
  obtain ⟨gd, c, rfl, ha, hb⟩ := rd_two H
  have hc0 := rd_c0 H
  have hc1 := rd_c1 H
  by_cases k8 : st / 16 = 8
  · have e1 : hiOf st a b hi = hi := by unfold hiOf; rw [if_neg (by omega)]
    have e2 : msgsOf st a b hi = [⟨⟨#[111, 102, 102]⟩, st % 16, a, b⟩] := by unfold msgsOf; rw [if_pos k8]
    rw [e1, e2]
    exact (complete_off w g st a b gd 0 c (by omega) (by omega) k8 rfl hc0 hc1 ha hb).mono fun e w' ⟨v, he, hr, hb⟩ => he ▸ Done.of_below H hr hb
  by_cases k9 : st / 16 = 9
  · have e1 : hiOf st a b hi = hi := by unfold hiOf; rw [if_neg (by omega)]
    rw [e1]
    by_cases z : b = 0
    · have e2 : msgsOf st a b hi = [⟨⟨#[111, 102, 102]⟩, st % 16, a, 64⟩] := by unfold msgsOf; rw [if_neg k8, if_pos k9, if_pos z]
      rw [e2]
      exact (complete_on0 w g st a b gd 0 c (by omega) (by omega) k9 z rfl hc0 hc1 ha hb).mono fun e w' ⟨v, he, hr, hb⟩ => he ▸ Done.of_below H hr hb
    · have e2 : msgsOf st a b hi = [⟨⟨#[111, 110]⟩, st % 16, a, b⟩] := by unfold msgsOf; rw [if_neg k8, if_pos k9, if_neg z]
      rw [e2]
      exact (complete_on w g st a b gd 0 c (by omega) (by omega) k9 (by simpa using z) rfl hc0 hc1 ha hb).mono fun e w' ⟨v, he, hr, hb⟩ => he ▸ Done.of_below H hr hb
  by_cases k11 : st / 16 = 11
  · by_cases a32 : a < 32
    · have e1 : hiOf st a b hi = hi.set ((st % 16).toNat * 32 + a.toNat) b := by unfold hiOf; rw [if_pos ⟨k11, a32⟩]
      have e2 : msgsOf st a b hi = [⟨⟨#[99, 111, 110, 116, 114, 111, 108]⟩, st % 16, a, b⟩] := by unfold msgsOf; rw [if_neg k8, if_neg k9, if_pos k11, if_pos a32]
      rw [e1, e2]
      have hi5 : (st % 16).toNat * 32 + a.toNat < 512 := by omega
      have hh := rd_hi H _ hi5
      have hf := rd_fr H (2 + ((st % 16).toNat * 32 + a.toNat))
      rw [← Nat.add_assoc] at hh hf
      refine (complete_c32 w g st a b _ gd 0 c (by omega) (by omega) k11 ha0 (decide_eq_true a32) a32 (by omega) (by omega) hh hf hc0 hc1 ha hb).mono ?_
      rintro e w' ⟨v, he, W, hr, hb, hw⟩
      have HW := H.below hb
      subst hw
      rw [Nat.add_assoc]
      exact ⟨v, he, Kd.R_set hr HW.cells (by decide) _ _, HW.setHi _ hi5 b, (hb.mono H.top).setCell H.base _, (KeepBut.of_below hb g none).set_ _ _⟩
    · have e1 : hiOf st a b hi = hi := by unfold hiOf; rw [if_neg (by omega)]
      rw [e1]
      by_cases a64 : a < 64
      · have e2 : msgsOf st a b hi = [⟨⟨#[99, 111, 110, 116, 114, 111, 108]⟩, st % 16, a, b⟩, ⟨⟨#[119, 105, 100, 101]⟩, st % 16, a - 32, wrap64 (wrap64 (128 * hi.getD ((st % 16).toNat * 32 + (a - 32).toNat) 0) + b)⟩] := by unfold msgsOf; rw [if_neg k8, if_neg k9, if_pos k11, if_neg a32, if_pos a64]
        rw [e2]
        have hi5 : (st % 16).toNat * 32 + (a - 32).toNat < 512 := by omega
        have hh := rd_hi H _ hi5
        have hf := rd_fr H (2 + ((st % 16).toNat * 32 + (a - 32).toNat))
        rw [← Nat.add_assoc] at hh hf
        exact (complete_c48 w g st a b _ gd 0 c (by omega) (by omega) k11 (by omega) (by omega) (decide_eq_false a32) (decide_eq_true a64) (by omega) (by rw [i64_w]; unfold wrap64; omega) (by omega) (by omega) hh hf hc0 hc1 ha hb).mono fun e w' ⟨v, he, hr, hb⟩ => he ▸ Done.of_below H hr hb
      · have e2 : msgsOf st a b hi = [⟨⟨#[99, 111, 110, 116, 114, 111, 108]⟩, st % 16, a, b⟩] := by unfold msgsOf; rw [if_neg k8, if_neg k9, if_pos k11, if_neg a32, if_neg a64]
        rw [e2]
        exact (complete_c64 w g st a b gd 0 c (by omega) (by omega) k11 (decide_eq_false a32) (decide_eq_false a64) hc0 hc1 ha hb).mono fun e w' ⟨v, he, hr, hb⟩ => he ▸ Done.of_below H hr hb
  have e1 : hiOf st a b hi = hi := by unfold hiOf; rw [if_neg (by omega)]
  rw [e1]
  by_cases k14 : st / 16 = 14
  · have e2 : msgsOf st a b hi = [⟨⟨#[98, 101, 110, 100]⟩, st % 16, 0, wrap64 (a + wrap64 (128 * b))⟩] := by unfold msgsOf; rw [if_neg k8, if_neg k9, if_neg k11, if_pos k14]
    rw [e2]
    have := complete_bend w g st a b gd 0 c (by omega) (by omega) k14 rfl hc0 hc1 ha hb
    exact this.mono fun e w' ⟨v, he, hr, hb⟩ => he ▸ Done.of_below H hr hb
  · have e2 : msgsOf st a b hi = [] := by unfold msgsOf; rw [if_neg k8, if_neg k9, if_neg k11, if_neg k14]
    rw [e2]
    exact (complete_two' w g st a b gd 0 c (by omega) (by omega) (by simpa using k8) (by simpa using k9) (by simpa using k11) (by simpa using k14) hc0 hc1 ha hb).mono fun e w' ⟨he, hb⟩ => he ▸ Done.of_below H (Kd.R_nil _ _ _ _ _) hb
theorem rd_one {w : World} {B g : Nat} {st : Int} {dv : Value} {a : Int} {hi : List Int} (h : Rd w B g st dv [a] hi) : ∃ gd c, dv = .slice (some ⟨gd, 0, none⟩) 1 c ∧ w.cell? ⟨gd, 0, none⟩ = some (.int .i64 a) := by
  obtain ⟨gd, c, hd, hC⟩ := rd_gd h (by simp)
  obtain ⟨_, e, h0⟩ := Kd.at_int hC 0 (by omega) (by simp)
  cases e
  exact ⟨gd, c, hd, by simpa [Addr.add, rd] using h0⟩
theorem complete_one (w : World) (B g : Nat) (st a : Int) (dv : Value) (hi : List Int) (h0 : st / 16 = 12 ∨ st / 16 = 13) (H : Rd w B g st dv [a] hi) :
    Calls Try.prog 28 #[.pointer (some ⟨g, 0, none⟩)] w (Done B g st dv [a] hi [] w) := by
  have f : ∀ m : Int, m ≠ 12 → m ≠ 13 → (st / 16 == m) = false := fun m h h' => by
    rw [beq_eq_false_iff_ne]; omega
  obtain ⟨gd, c, rfl, ha⟩ := rd_one H
  exact (complete_one' w g st a gd 0 c (by omega) (by omega) (f 8 (by omega) (by omega)) (f 9 (by omega) (by omega)) (f 11 (by omega) (by omega)) (f 14 (by omega) (by omega)) (rd_c0 H) (rd_c1 H) ha).mono fun e w' ⟨he, hb⟩ => he ▸ Done.of_below H (Kd.R_nil _ _ _ _ _) hb

/-- A row's own block: none, an elder one, or a new one. -/
def Stays (v0 v1 : Value) (n : Nat) : Prop := v1.ownBlock = none ∨ v1.ownBlock = v0.ownBlock ∨ ∃ b, v1.ownBlock = some b ∧ n ≤ b
/-- What holds at a round's head of Feed. -/
structure FeedAt (w : World) (B g : Nat) (dv0 : Value) (s : Int × List Int × List Int) (ms : List S37) (W : World) (v : Value) (dv : Value) : Prop where
  rd : Rd W B g s.1 dv s.2.1 s.2.2
  out : Kd.R k37 37 W w.heap.size (fun _ => True) v ms
  below : Below B w W
  keep : KeepBut w W g dv0.ownBlock
  stays : Stays dv0 dv w.heap.size
/-- What Feed comes to. -/
def Fed (B g : Nat) (s' : Int × List Int × List Int) (ms : List S37) (dv0 : Value) (w : World) (e : Ending) (w' : World) : Prop :=
  ∃ v0_ dv : Value, e = .returned v0_ ∧ FeedAt w B g dv0 s' ms w' v0_ dv

theorem FeedAt.cellAt {w : World} {B g : Nat} {dv0 : Value} {s : Int × List Int × List Int} {ms : List S37} {W : World} {v dv : Value} (h : FeedAt w B g dv0 s ms W v dv) {a : Addr} {u : Value} (hc : w.cell? a = some u) (h1 : a.block ≠ g) (h2 : some a.block ≠ dv0.ownBlock) : W.cell? a = some u := by
  have hb := World.block_lt_of_cell? w a hc
  have := h.keep.2 a.block hb h1 h2
  rw [← hc]
  unfold World.cell?
  rw [this]
theorem FeedAt.setSt {w : World} {B g : Nat} {dv0 : Value} {s : Int × List Int × List Int} {ms : List S37} {W : World} {v dv : Value} (h : FeedAt w B g dv0 s ms W v dv) (c : Int) : FeedAt w B g dv0 (c, s.2.1, s.2.2) ms (W.setCell ⟨g, 0, none⟩ (.int .i64 c)) v dv :=
  ⟨h.rd.setSt c, Kd.R_set h.out h.rd.cells (by decide) _ _, h.below.setCell h.rd.base _, h.keep.set_ _ _, h.stays⟩
theorem FeedAt.setNil {w : World} {B g : Nat} {dv0 : Value} {s : Int × List Int × List Int} {ms : List S37} {W : World} {v dv : Value} (h : FeedAt w B g dv0 s ms W v dv) : FeedAt w B g dv0 (s.1, [], s.2.2) ms (W.setCell ⟨g, 1, none⟩ (.slice none 0 0)) v (.slice none 0 0) :=
  ⟨h.rd.setNil, Kd.R_set h.out h.rd.cells (by decide) _ _, h.below.setCell h.rd.base _, h.keep.set_ _ _, .inl rfl⟩
theorem KeepBut.weak {w w1 : World} {g : Nat} (h : KeepBut w w1 g none) (row : Option Nat) : KeepBut w w1 g row := ⟨h.1, fun i hi hg _ => h.2 i hi hg (by simp)⟩
theorem FeedAt.cellsAt {w : World} {B g : Nat} {dv0 : Value} {s : Int × List Int × List Int} {ms : List S37} {W w1 : World} {v dv : Value} (h : FeedAt w B g dv0 s ms W v dv) (hg : W.grownBy w1 dv.ownBlock) : w1.heap[g]? = some (.cells (rdCells s.1 dv s.2.2) 62 (0, 0)) :=
  blk_grown h.rd.cells hg (Kd.R_ne h.rd.own h.rd.cells (by decide))
theorem FeedAt.pushed {w : World} {B g : Nat} {dv0 : Value} {s : Int × List Int × List Int} {ms : List S37} {W w1 : World} {v dv v1 : Value} {xs : List Int} (h : FeedAt w B g dv0 s ms W v dv) (hr : Kd.R (Kd.int .i64) 3 w1 B (fun _ => True) v1 xs) (hb : Below B W w1) (hg : W.grownBy w1 dv.ownBlock) (hat : v1.ownBlock = dv.ownBlock ∨ ∃ b, v1.ownBlock = some b ∧ W.heap.size ≤ b) :
    FeedAt w B g dv0 (s.1, xs, s.2.2) ms (w1.setCell ⟨g, 1, none⟩ v1) v v1 := by
  have hc := h.cellsAt hg
  refine ⟨⟨?_, Kd.R_set hr hc (by decide) _ _, h.rd.len, h.rd.base, ?_⟩, Kd.R_set (Kd.R_over h.out h.rd.own (by decide) hg) hc (by decide) _ _, ?_, ?_, ?_⟩
  · rw [blk_set hc, rdCells, rdCells]
    rfl
  · have := hb.size
    have := h.rd.top
    rw [World.setCell]
    simp
    omega
  · exact (h.below.trans hb).setCell h.rd.base _
  · refine KeepBut.set_ ?_ _ _
    rcases h.stays with e | e | ⟨b, e, hle⟩
    · rw [e] at hg
      exact KeepBut.trans h.keep (KeepBut.weak (KeepBut.of_grown hg g) _) (.inl rfl)
    · rw [e] at hg
      exact KeepBut.trans h.keep (KeepBut.of_grown hg g) (.inl rfl)
    · exact KeepBut.trans h.keep (KeepBut.of_grown hg g) (.inr ⟨b, e, hle⟩)
  · rcases hat with e | ⟨b, e, hle⟩
    · rcases h.stays with e' | e' | ⟨b, e', hle⟩
      · exact .inl (e.trans e')
      · exact .inr (.inl (e.trans e'))
      · exact .inr (.inr ⟨b, e.trans e', hle⟩)
    · exact .inr (.inr ⟨b, e, Nat.le_trans h.keep.1 hle⟩)
theorem out_apart {W : World} {b g : Nat} {v : Value} {xs : List S37} {cells : Array Value} (h : Kd.R k37 37 W b (fun _ => True) v xs) (hb : W.heap[g]? = some (.cells cells 62 (0, 0))) : Kd.R k37 37 W b (fun k => k ≠ g) v xs :=
  Kd.R_mono (Kd.R_apart' (v := .slice (some ⟨g, 0, none⟩) 1 1) (e' := 62) h (fun k hk => by simp [Value.ownBlock] at hk; subst hk; exact ⟨_, hb⟩) (by decide)) (fun k hk => by
    have := hk.2
    simpa [Value.ownBlock] using this)
theorem FeedAt.drewN {w : World} {B g : Nat} {dv0 : Value} {s : Int × List Int × List Int} {ms : List S37} {W : World} {v dv : Value} (h : FeedAt w B g dv0 s ms W v dv) (n : Nat) : FeedAt w B g dv0 s ms (W.drewN n) v dv :=
  ⟨h.rd.below (pw_below_drewN (Below.refl _ _) n), Kd.R_drewN h.out n, pw_below_drewN h.below n, h.keep, h.stays⟩
theorem FeedAt.completed {w : World} {B g : Nat} {dv0 : Value} {s : Int × List Int × List Int} {ms : List S37} {W w4 : World} {v dv : Value} {hi' : List Int} (h : FeedAt w B g dv0 s ms W v dv) (hD : Rd w4 B g s.1 dv s.2.1 hi') (hb : Below B W w4) (hk : KeepBut W w4 g none) : FeedAt w B g dv0 (s.1, s.2.1, hi') ms w4 v dv :=
  ⟨hD, Kd.R_mono (Kd.R_keep (out_apart h.out h.rd.cells) hk (fun _ h => h)) (fun _ _ => trivial), h.below.trans hb, KeepBut.trans h.keep (KeepBut.weak hk _) (.inl rfl), h.stays⟩
theorem FeedAt.appended {w : World} {B g : Nat} {dv0 : Value} {s : Int × List Int × List Int} {ms ms' : List S37} {W w5 : World} {v v1 dv : Value} (h : FeedAt w B g dv0 s ms W v dv) (hB : B ≤ w.heap.size) (hr : Kd.R k37 37 w5 w.heap.size (fun _ => True) v1 ms') (hb : Below w.heap.size W w5) (hg : W.grownBy w5 v.ownBlock) : FeedAt w B g dv0 s ms' w5 v1 dv := by
  refine ⟨⟨blk_grown h.rd.cells hg (Kd.R_ne h.out h.rd.cells (by decide)), Kd.R_over h.rd.own h.out (by decide) hg, h.rd.len, h.rd.base, Nat.le_trans h.rd.top hb.size⟩, hr, h.below.trans (hb.mono hB), ?_, h.stays⟩
  rcases Kd.R_base2 h.out with e | ⟨k, e, hk⟩
  · rw [e] at hg
    exact KeepBut.trans h.keep (KeepBut.weak (KeepBut.of_grown hg g) _) (.inl rfl)
  · exact KeepBut.trans h.keep (KeepBut.of_grown hg g) (.inr ⟨k, e, hk⟩)
theorem complete_of (W : World) (B g : Nat) (s1 : Int × List Int × List Int) (dv : Value) (c : Int) (hk : RdOk s1) (hp : 0 < s1.1) (hw : s1.2.1.length + 1 = wantsOf s1.1) (h0 : 0 ≤ c) (h1 : c ≤ 127) (H : Rd W B g s1.1 dv (s1.2.1 ++ [c]) s1.2.2) :
    Calls Try.prog 28 #[.pointer (some ⟨g, 0, none⟩)] W (Done B g s1.1 dv (s1.2.1 ++ [c]) (hiOf' s1.1 (s1.2.1 ++ [c]) s1.2.2) (msgsOf' s1.1 (s1.2.1 ++ [c]) s1.2.2) W) := by
  obtain ⟨st, d, hi⟩ := s1
  simp only [] at *
  rcases hk with ⟨h, _⟩ | ⟨ha, hb, hd⟩
  · simp only [] at h; omega
  · simp only [] at ha hb hd
    rcases hd with rfl | ⟨a, rfl, ha0, ha1, hw2⟩
    · have : st / 16 = 12 ∨ st / 16 = 13 := by
        unfold wantsOf at hw
        split at hw
        · assumption
        · simp at hw
      exact complete_one W B g st c dv hi this H
    · exact complete_any W B g st a c dv hi ha hb ha0 ha1 h0 h1 H
theorem length_is (st : Int) (w : World) (h0 : 0 ≤ st) (h9 : st ≤ 255) : Calls Try.prog 27 #[.int .i64 st] w fun e w' => e = .returned (.int .i64 ((wantsOf st : Nat) : Int)) ∧ ∃ n, w' = w.drewN n := by
  unfold wantsOf
  by_cases h1 : st / 16 = 12
  · rw [if_pos (.inl h1)]
    have h1b : (st / 16 == 12) = true := by simpa using h1
    clear h1
    go_enter Try.func27, Try.ntmps27
    go_wp2
    go_ret
    exact ⟨rfl, 0, rfl⟩
  · have h1b : (st / 16 == 12) = false := by simpa using h1
    by_cases h2 : st / 16 = 13
    · rw [if_pos (.inr h2)]
      have h2b : (st / 16 == 13) = true := by simpa using h2
      clear h1 h2
      go_enter Try.func27, Try.ntmps27
      go_wp2
      go_ret
      exact ⟨rfl, 0, rfl⟩
    · rw [if_neg (by simp [h1, h2])]
      have h2b : (st / 16 == 13) = false := by simpa using h2
      clear h1 h2
      go_enter Try.func27, Try.ntmps27
      go_wp2
      go_ret
      exact ⟨rfl, 0, rfl⟩
/-- A round's head. -/
def Head (w : World) (B g : Nat) (dv0 : Value) (s : Int × List Int × List Int) (l0 : List Int) (v6 v20 : Value) (W : World) : Prop :=
  ∃ (i : Nat) (dv : Value), i ≤ l0.length ∧ v20 = .int .i64 i ∧ Aside0 (FeedAt w B g dv0 (rdRun s (l0.take i)).1 (rdRun s (l0.take i)).2 W v6 dv)

set_option maxHeartbeats 8000000 in
set_option maxRecDepth 100000 in
theorem feed_any (w : World) (B g : Nat) (s : Int × List Int × List Int) (dv0 : Value) (A : Option Addr) (c0 : Nat) (l0 : List Int) (H : Rd w B g s.1 dv0 s.2.1 s.2.2) (hok : RdOk s)
    (hr0 : Kd.C (Kd.int .u8) w A l0.length l0) (hc0 : l0.length ≤ c0) (hl : l0.length ≤ 100000) (hx : ∀ x ∈ l0, 0 ≤ x ∧ x ≤ 255) (hfar : ∀ ad, A = some ad → 0 < l0.length → ad.block ≠ g ∧ some ad.block ≠ dv0.ownBlock) :
    Calls Try.prog 15 #[.pointer (some ⟨g, 0, none⟩), .slice A l0.length c0] w (Fed B g (rdRun s l0).1 (rdRun s l0).2 dv0 w) := by
  have HR := Aside0.mk hr0
  have HF := Aside0.mk hfar
  have HX := Aside0.mk hx
  have HS := Aside0.mk hok
  have HH := Aside0.mk H
  clear hr0 hfar hx hok H
  go_enter Try.func15, Try.ntmps15
  go_wp2
  go_loopw [5, 11] (fun v6 v20 W => Head w B g dv0 s l0 v6 v20 W) (fun _ v20 _ => l0.length - (intOf v20).toNat)
  case atStart => exact ⟨0, dv0, Nat.zero_le _, rfl, ⟨HH.out, Kd.R_nil _ _ _ _ _, Below.refl _ _, KeepBut.refl _ _ _, .inr (.inl rfl)⟩⟩
  case round =>
    obtain ⟨i, dv, hi, rfl, HA⟩ := hrel
    by_cases hlt : i < l0.length
    · have hcell := Kd.at_int HR.out i (by omega) (by omega)
      obtain ⟨ad, rfl, hcell⟩ := hcell
      have hcell := HA.out.cellAt hcell (by rw [add_block]; exact (HF.out ad rfl (by omega)).1) (by rw [add_block]; exact (HF.out ad rfl (by omega)).2)
      have hcx := HX.out l0[i] (List.getElem_mem hlt)
      have hrd : rd l0 i = l0[i] := by simp [rd, hlt]
      rw [hrd, Int.toNat_natCast] at hcell
      have HT := Aside0.mk (show l0.take (i + 1) = l0.take i ++ [l0[i]] by rw [List.take_add_one, List.getElem?_eq_getElem hlt]; rfl)
      generalize l0[i] = c at hcell hcx HT
      clear hrd
      obtain ⟨hc1, hc2⟩ := hcx
      have hw := u8_i64 hc1 hc2
      by_cases h8 : 248 ≤ c
      · go_wp2
        go_roundw
        case rel => exact ⟨i + 1, dv, by omega, by go_num, ⟨by rw [HT.out, rdRun_snoc, rdStep, if_pos h8, List.append_nil]; exact HA.out⟩⟩
        case measure => simp [intOf]; omega
      have f0 := rd_c0 HA.out.rd
      have f1 := rd_c1 HA.out.rd
      have r0 := rd_fr HA.out.rd 0
      have r1 := rd_fr HA.out.rd 1
      by_cases h4 : 240 ≤ c
      · go_wp2
        go_roundw
        case rel => exact ⟨i + 1, _, by omega, by go_num, ⟨by rw [HT.out, rdRun_snoc, rdStep, if_neg (show ¬ c ≥ 248 by omega), if_pos h4, List.append_nil]; exact ((HA.out.setNil).setSt c).setSt 0⟩⟩
        case measure => simp [intOf]; omega
      by_cases h2 : 128 ≤ c
      · go_wp2
        go_roundw
        case rel => exact ⟨i + 1, _, by omega, by go_num, ⟨by rw [HT.out, rdRun_snoc, rdStep, if_neg (show ¬ c ≥ 248 by omega), if_neg (show ¬ c ≥ 240 by omega), if_pos h2, List.append_nil]; exact (HA.out.setNil).setSt c⟩⟩
        case measure => simp [intOf]; omega
      generalize hs : (rdRun s (l0.take i)).1 = s1 at HA f0 f1 r0 r1
      have HE := Aside0.mk hs
      clear hs
      have hz : ¬ 0 < s1.1 → s1.1 = 0 := by
        intro hn
        rcases (show RdOk s1 by rw [← HE.out]; exact rdRun_ok s HS.out _ (fun x hx => HX.out x (List.mem_of_mem_take hx))) with ⟨h, _⟩ | ⟨h, _⟩ <;> omega
      by_cases hp : 0 < s1.1
      · have hzb : (s1.1 == 0) = false := by rw [beq_eq_false_iff_ne]; omega
        have HST := Aside0.mk (show s1.1 ≤ 255 by rcases (show RdOk s1 by rw [← HE.out]; exact rdRun_ok s HS.out _ (fun x hx => HX.out x (List.mem_of_mem_take hx))) with ⟨h, _⟩ | ⟨_, h, _⟩ <;> omega)
        clear hz
        have hk1 : RdOk s1 := by rw [← HE.out]; exact rdRun_ok s HS.out _ (fun x hx => HX.out x (List.mem_of_mem_take hx))
        have hn : s1.2.1.length ≤ 1 := by
          rcases hk1 with ⟨_, h⟩ | ⟨_, _, h | ⟨a, h, _⟩⟩ <;> rw [h] <;> simp
        have HN := Aside0.mk hn
        have HK := Aside0.mk hk1
        clear hn hk1
        go_wp2_with (at_builtin; go_loud (refine Kd.R_append (Kd.int .i64) (w0 := wr) B rfl (.tmp 42) (.tmp 44) 56 3 (.int .i64 0) 8 rfl Try.underlying56 infoM3 rfl (by decide) (by omega) dv s1.2.1 c [.int .i64 c] (fun _ => True) (fun _ => False) rfl (by first | (go_simp; done) | (go_simp; rfl)) rfl (fun _ hk => hk.elim) (fun _ _ => trivial) HA.out.rd.own (Below.refl _ _) HA.out.rd.top (by have := HN.out; omega) ?_); intro v1 w1 hr1 hb1 hg1 hat1; obtain ⟨A1, q1, rfl, _, _⟩ := Kd.R_reads hr1; have HG := Aside0.mk (HA.out.pushed hr1 hb1 hg1 hat1); have r1' := blk_frozen (HA.out.cellsAt hg1) 1; have f1' := (blk_cell (HA.out.cellsAt hg1) 1).trans (show (rdCells s1.1 dv s1.2.2)[1]? = some dv from rfl); clear hr1 hb1 hg1 hat1)
        have HG' := HG.out
        rw [show (s1.2.1 ++ [c]).length = s1.2.1.length + 1 by simp] at HG'
        clear HG f1' r1' f0 f1 r0 r1 HA hcell
        generalize w1.setCell ⟨g, 1, none⟩ (.slice A1 (s1.2.1.length + 1) q1) = W2 at HG' ⊢
        have g0 := rd_c0 HG'.rd
        have g1 := rd_c1 HG'.rd
        have t1 := rd_fr HG'.rd 1
        have HG := Aside0.mk HG'
        clear HG'
        by_cases hwn : s1.2.1.length + 1 = wantsOf s1.1
        · have hwb : (((s1.2.1.length : Int) + 1) == ((wantsOf s1.1 : Nat) : Int)) = true := by rw [beq_iff_eq]; omega
          have HWN := Aside0.mk hwn
          clear hwn
          go_quiet ((go_at_call 27; exact Calls.quiet_of (length_is s1.1 _ (by omega) HST.out)))
          have HG3 := Aside0.mk (HG.out.drewN nq)
          clear g0 g1 t1 HG
          generalize W2.drewN nq = W3 at HG3 ⊢
          go_wp2_with (first | (go_at_call 28; refine (complete_of W3 B g s1 _ c HK.out hp HWN.out hc1 (by omega) HG3.out.rd).mono ?_; rintro e w4 ⟨v0_, rfl, hr4, hd4, hb4, hk4⟩; obtain ⟨A2, q2, rfl, _, hC2⟩ := Kd.R_reads hr4; have HC2 := Aside0.mk hC2; have HG4 := Aside0.mk (HG3.out.completed hd4 hb4 hk4); clear hr4 hd4 hb4 hk4 hC2) | (at_builtin; go_loud (refine Kd.R_append_rows k37 (w0 := w4) w.heap.size rfl (.tmp 59) (.tmp 61) 25 37 (.agg #[(.string ⟨#[]⟩), (.int .i64 0), (.int .i64 0), (.int .i64 0)]) 40 rfl Try.underlying25 infoM37 rfl (by decide) (by omega) u5 (rdRun s (l0.take i)).2 (msgsOf' s1.1 (s1.2.1 ++ [c]) s1.2.2) A2 (msgsOf' s1.1 (s1.2.1 ++ [c]) s1.2.2).length q2 (fun _ => True) (fun _ => False) rfl (by first | (go_simp; done) | (go_simp; rfl)) HG4.out.out HC2.out (fun x cs h => k37_open h ▸ k37_mkM _ _ _ x) (fun _ hk => hk.elim) (fun _ _ => trivial) (Below.refl _ _) HG4.out.keep.1 (by have := rdRun_len s (l0.take i); have := List.length_take_le i l0; have := msgs_len s1.1 (s1.2.1 ++ [c]) s1.2.2; omega) ?_); intro v5 w5 hr5 hb5 hg5 hat5; have HG5 := Aside0.mk (HG4.out.appended HH.out.top hr5 hb5 hg5); have t5 := rd_fr HG5.out.rd 1; have g5 := rd_c1 HG5.out.rd; clear hr5 hb5 hg5 hat5))
          go_roundw
          case rel => exact ⟨i + 1, _, by omega, by go_num, ⟨by rw [HT.out, rdRun_snoc, HE.out, rdStep, if_neg (show ¬ c ≥ 248 by omega), if_neg (show ¬ c ≥ 240 by omega), if_neg (show ¬ c ≥ 128 by omega), if_pos hp, if_pos (by rw [List.length_append]; exact HWN.out)]; exact HG5.out.setNil⟩⟩
          case measure => simp [intOf]; omega
        · have hwb : (((s1.2.1.length : Int) + 1) == ((wantsOf s1.1 : Nat) : Int)) = false := by rw [beq_eq_false_iff_ne]; omega
          have HWN := Aside0.mk hwn
          clear hwn
          go_quiet ((go_at_call 27; exact Calls.quiet_of (length_is s1.1 _ (by omega) HST.out)))
          go_wp2
          go_roundw
          case rel => exact ⟨i + 1, _, by omega, by go_num, ⟨by rw [HT.out, rdRun_snoc, HE.out, rdStep, if_neg (show ¬ c ≥ 248 by omega), if_neg (show ¬ c ≥ 240 by omega), if_neg (show ¬ c ≥ 128 by omega), if_pos hp, if_neg (by rw [List.length_append]; exact HWN.out), List.append_nil]; exact HG.out.drewN nq⟩⟩
          case measure => simp [intOf]; omega
      · have hzb : (s1.1 == 0) = true := by rw [beq_iff_eq]; exact hz hp
        have HNP := Aside0.mk hp
        clear hz hp
        go_wp2
        go_roundw
        case rel => exact ⟨i + 1, _, by omega, by go_num, ⟨by rw [HT.out, rdRun_snoc, HE.out, rdStep, if_neg (show ¬ c ≥ 248 by omega), if_neg (show ¬ c ≥ 240 by omega), if_neg (show ¬ c ≥ 128 by omega), if_neg HNP.out, List.append_nil]; exact HA.out⟩⟩
        case measure => simp [intOf]; omega
    · have HT := Aside0.mk (show l0.take i = l0 from List.take_of_length_le (by omega))
      go_wp2
      go_ret
      exact ⟨_, dv, rfl, by have := HA.out; rw [HT.out] at this; exact this⟩

theorem newCells : Try.zeroCells62 = rdCells 0 (.slice none 0 0) (List.replicate 512 0) := by kernel_rfl
/-- What New comes to. -/
def Fresh (w : World) (e : Ending) (w' : World) : Prop := ∃ g, e = .returned (.pointer (some ⟨g, 0, none⟩)) ∧ w.heap.size ≤ g ∧ Rd w' w.heap.size g 0 (.slice none 0 0) [] (List.replicate 512 0) ∧ Below w.heap.size w w'
set_option maxHeartbeats 8000000 in
set_option maxRecDepth 100000 in
theorem new_any (w : World) : Calls Try.prog 13 #[] w (Fresh w) := by
  go_enter Try.func13, Try.ntmps13
  go_wp2
  go_ret
  refine ⟨w.heap.size, rfl, Nat.le_refl _, ?_, below_alloc (Below.refl _ _) _⟩
  rw [newCells]
  exact ⟨blk_new w _, Kd.R_nil _ _ _ _ _, by simp, Nat.le_refl _, (below_alloc (Below.refl _ _) _ : Below w.heap.size w _).size⟩

end Go.Proofs.Ytlaidcoickeihaa.PReaderFeeds.Rf
namespace Go.Proofs.Ytlaidcoickeihaa.PReaderFeeds
open Go.RowKit Go.Proofs.YtlaidcoickeihaaW.PrintWords Go.Proofs.YtlaidcoickeihaaW.PrintLast Go.Proofs.YtlaidcoickeihaaW.PrintMore
set_option linter.unusedVariables false
set_option linter.unusedSimpArgs false
def serinetteref21_Read.f (k : Nat) (b : List Int) : Option (List S37) := if b.length ≤ 100000 ∧ (∀ x ∈ b, 0 ≤ x ∧ x ≤ 255) then some (rdRun (0, [], List.replicate 512 0) b).2 else none
theorem serinetteref21_Read.mono : ∀ a0 k, LeO (serinetteref21_Read.f k a0) (serinetteref21_Read.f (k + 1) a0) := fun a0 k => LeO.refl _
set_option maxHeartbeats 8000000 in
set_option maxRecDepth 100000 in
theorem serinetteref21_Read.calls (k : Nat) (A0 : Option Addr) (c0 : Nat) (l0 : List Int) (r : List S37) (w : World) (hr0 : Kd.C (Kd.int .u8) w A0 l0.length l0) (hc0 : l0.length ≤ c0) (h : serinetteref21_Read.f k l0 = some r) :
    Calls Try.prog 11 #[.slice A0 l0.length c0] w fun e w' => ∃ v0_ : Value, e = .returned (v0_) ∧ Kd.R k37 37 w' w.heap.size (fun _ => True) v0_ r ∧ Below w.heap.size w w' := by
  unfold serinetteref21_Read.f at h
  by_cases hg : l0.length ≤ 100000 ∧ (∀ x ∈ l0, 0 ≤ x ∧ x ≤ 255)
  · rw [if_pos hg] at h
    obtain ⟨hl, hx⟩ := hg
    have HX := Aside0.mk hx
    have HR := Aside0.mk hr0
    have HH := Aside0.mk (Option.some.inj h)
    clear hx hr0 h
    go_enter Try.func11, Try.ntmps11
    go_wp2_with (first | (go_at_call 13; refine (Rf.new_any _).mono ?_; rintro e w1 ⟨g, rfl, hg, hd, hb⟩; have HG := Aside0.mk hg; have HD := Aside0.mk hd; have HB := Aside0.mk hb; clear hg hd hb) | (go_at_call 15; refine (Rf.feed_any w1 w.heap.size g (0, [], List.replicate 512 0) _ A0 c0 l0 HD.out (.inl ⟨rfl, rfl⟩) (HR.out.imp_ HB.out (fun _ _ h => h)) hc0 hl HX.out ?_).mono ?_; rotate_left; rintro e w2 ⟨v0_, dv, rfl, hf⟩; have HF := Aside0.mk hf; clear hf))
    · go_ret
      exact ⟨_, rfl, HH.out ▸ Kd.R_lower HF.out.out HB.out.size, HB.out.trans HF.out.below⟩
    · intro ad he hp
      have := c_lt HR.out ad he hp
      exact ⟨by have := HG.out; omega, by simp [Value.ownBlock]⟩
  · rw [if_neg hg] at h
    cases h
end Go.Proofs.Ytlaidcoickeihaa.PReaderFeeds
