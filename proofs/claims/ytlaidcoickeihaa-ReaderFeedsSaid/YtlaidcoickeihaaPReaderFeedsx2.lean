-- turned by a program of ours
import Derived.Test.YtlaidcoickeihaaPReaderFeedsx0
import Derived.Test.YtlaidcoickeihaaQReaderFeeds
import Derived.Test.YtlaidcoickeihaaRReaderFeeds
import Derived.Test.YtlaidcoickeihaaFReaderFeeds
import Derived.Test.YtlaidcoickeihaaPReaderFeedsx1
namespace Go.Proofs.Ytlaidcoickeihaa.PReaderFeeds
open Go.RowKit Go.Proofs.YtlaidcoickeihaaW.PrintWords Go.Proofs.YtlaidcoickeihaaW.PrintLast Go.Proofs.YtlaidcoickeihaaW.PrintMore
attribute [local go_sem] max2_int min2_int max_two min_two max_three min_three max_four min_four   -- for this text's walks alone
set_option linter.unusedVariables false
set_option linter.unusedSimpArgs false

attribute [local go_sem high] eqA37
-- NOT PRINTED: function 12 (message_New)

/-! ### message_length: function 25 -/
def message_length.f (a0 : Int) : Option (Int) := if (a0 / 16) = 12 then (some 1) else (if (a0 / 16) = 13 then (some 1) else (some 2))
set_option maxHeartbeats 8000000 in
set_option maxRecDepth 100000 in
theorem message_length.calls (a0 : Int) (r : Int) (w : World) (h : message_length.f a0 = some r) :
    Calls Try.prog 25 #[.int .i64 a0] w fun e w' => e = .returned (.int .i64 r) ∧ Drawn0 w w' := by
  have H : (if (a0 / 16) = 12 then (some 1) else (if (a0 / 16) = 13 then (some 1) else (some 2))) = some r := h
  clear h
  by_cases c2 : (a0 / 16) = 12
  · rw [if_pos c2] at H
    have c2b0 : ((a0 / 16) == 12) = true := beq_iff_eq.mpr c2
    have c2b1 : ((a0 / 16) != 12) = false := bne_eq_false_iff_eq.mpr c2
    clear c2
    obtain rfl := Option.some.inj H
    go_enter Try.func25, Try.ntmps25
    go_wp2
    go_ret
    exact ⟨by first | rfl | (simp; done) | (simp [*]; done), by repeat (first | exact Drawn0.refl _ | apply Drawn0.step)⟩
  · rw [if_neg c2] at H
    have c2b0 : ((a0 / 16) == 12) = false := beq_eq_false_iff_ne.mpr c2
    have c2b1 : ((a0 / 16) != 12) = true := bne_iff_ne.mpr c2
    by_cases c3 : (a0 / 16) = 13
    · rw [if_pos c3] at H
      have c3b0 : ((a0 / 16) == 13) = true := beq_iff_eq.mpr c3
      have c3b1 : ((a0 / 16) != 13) = false := bne_eq_false_iff_eq.mpr c3
      clear c3
      obtain rfl := Option.some.inj H
      go_enter Try.func25, Try.ntmps25
      go_wp2
      go_ret
      exact ⟨by first | rfl | (simp; done) | (simp [*]; done), by repeat (first | exact Drawn0.refl _ | apply Drawn0.step)⟩
    · rw [if_neg c3] at H
      have c3b0 : ((a0 / 16) == 13) = false := beq_eq_false_iff_ne.mpr c3
      have c3b1 : ((a0 / 16) != 13) = true := bne_iff_ne.mpr c3
      obtain rfl := Option.some.inj H
      go_enter Try.func25, Try.ntmps25
      go_wp2
      go_ret
      exact ⟨by first | rfl | (simp; done) | (simp [*]; done), by repeat (first | exact Drawn0.refl _ | apply Drawn0.step)⟩

-- NOT PRINTED: function 26 (message_Reader_complete)

-- NOT PRINTED: function 14 (message_Reader_Feed)

/-! ### message_Read: function 10 -/

/-! ### serinettelaw21_awake: function 8 -/
def serinettelaw21_awake.f (k : Nat)  : Option (Bool) := (message_Read.f k (([144, 60, 100, 62, 0] : List Int))).bind fun t104 => (if (t104.length : Int) = 2 then (if 0 < (t104.length : Int) then (if ((((rd_T37 t104 0).f0).toList) == ([111, 110] : List UInt8) && (((rd_T37 t104 0).f1) == 0 && (((rd_T37 t104 0).f2) == 60 && (((rd_T37 t104 0).f3) == 100)))) = true then (if 1 < (t104.length : Int) then (some ((((rd_T37 t104 1).f0).toList) == ([111, 102, 102] : List UInt8) && (((rd_T37 t104 1).f1) == 0 && (((rd_T37 t104 1).f2) == 62 && (((rd_T37 t104 1).f3) == 64))))) else (none)) else (some false)) else (none)) else (some false))
theorem serinettelaw21_awake.mono : ∀ k, LeO (serinettelaw21_awake.f k ) (serinettelaw21_awake.f (k + 1) ) := by
  intro  k
  unfold serinettelaw21_awake.f
  repeat' first
      | (with_reducible exact message_Read.mono _ _)
      | (with_reducible exact LeO.refl _)
      | (with_reducible exact LeO.none _)
      | (with_reducible refine LeO.ite ?_ ?_)
      | (with_reducible refine LeO.bind ?_ (fun _ => ?_))
      | exact message_Read.mono _ _
      | exact LeO.none _
      | refine LeO.ite ?_ ?_
      | refine LeO.bind ?_ (fun _ => ?_)
set_option maxHeartbeats 8000000 in
set_option maxRecDepth 100000 in
theorem serinettelaw21_awake.calls (k : Nat)  (r : Bool) (w : World) (h : serinettelaw21_awake.f k  = some r) :
    Calls Try.prog 8 #[] w fun e w' => e = .returned (.bool r) ∧ Below w.heap.size w w' := by
  have hu37 := Try.underlying37
  have HB := Aside0.mk (Below.refl w.heap.size w)
  have H : ((message_Read.f k (([144, 60, 100, 62, 0] : List Int))).bind fun t104 => (if (t104.length : Int) = 2 then (if 0 < (t104.length : Int) then (if ((((rd_T37 t104 0).f0).toList) == ([111, 110] : List UInt8) && (((rd_T37 t104 0).f1) == 0 && (((rd_T37 t104 0).f2) == 60 && (((rd_T37 t104 0).f3) == 100)))) = true then (if 1 < (t104.length : Int) then (some ((((rd_T37 t104 1).f0).toList) == ([111, 102, 102] : List UInt8) && (((rd_T37 t104 1).f1) == 0 && (((rd_T37 t104 1).f2) == 62 && (((rd_T37 t104 1).f3) == 64))))) else (none)) else (some false)) else (none)) else (some false))) = some r := h
  clear h
  obtain ⟨y101, hy101⟩ : ∃ y_ : List Int, y_ = (([144, 60, 100, 62, 0] : List Int)) := ⟨_, rfl⟩
  replace H : ((message_Read.f k y101).bind fun t104 => (if (t104.length : Int) = 2 then (if 0 < (t104.length : Int) then (if ((((rd_T37 t104 0).f0).toList) == ([111, 110] : List UInt8) && (((rd_T37 t104 0).f1) == 0 && (((rd_T37 t104 0).f2) == 60 && (((rd_T37 t104 0).f3) == 100)))) = true then (if 1 < (t104.length : Int) then (some ((((rd_T37 t104 1).f0).toList) == ([111, 102, 102] : List UInt8) && (((rd_T37 t104 1).f1) == 0 && (((rd_T37 t104 1).f2) == 62 && (((rd_T37 t104 1).f3) == 64))))) else (none)) else (some false)) else (none)) else (some false))) = some r := by first | (rw [hy101]; with_reducible exact H) | (have H2_ := (Option.bind_some _ _).symm.trans H; rw [hy101]; with_reducible exact H2_) | (have H2_ := (Option.bind_some _ _).symm.trans H; with_reducible exact H2_) | with_reducible exact H | (rw [hy101]; exact H) | exact H
  have Ny101 := Aside0.mk hy101
  clear hy101
  replace H := Option.bind_eq_some_iff.mp H
  obtain ⟨t104, A10, H⟩ := H
  replace H : (if (t104.length : Int) = 2 then (if 0 < (t104.length : Int) then (if ((((rd_T37 t104 0).f0).toList) == ([111, 110] : List UInt8) && (((rd_T37 t104 0).f1) == 0 && (((rd_T37 t104 0).f2) == 60 && (((rd_T37 t104 0).f3) == 100)))) = true then (if 1 < (t104.length : Int) then (some ((((rd_T37 t104 1).f0).toList) == ([111, 102, 102] : List UInt8) && (((rd_T37 t104 1).f1) == 0 && (((rd_T37 t104 1).f2) == 62 && (((rd_T37 t104 1).f3) == 64))))) else (none)) else (some false)) else (none)) else (some false)) = some r := H
  have A1 := Aside0.mk A10
  clear A10
  by_cases c2 : (t104.length : Int) = 2
  · rw [if_pos c2] at H
    have c2b0 : ((t104.length : Int) == 2) = true := beq_iff_eq.mpr c2
    have c2b1 : ((t104.length : Int) != 2) = false := bne_eq_false_iff_eq.mpr c2
    clear c2
    by_cases c3 : 0 < (t104.length : Int)
    · rw [if_pos c3] at H
      have c3b0 : decide (0 < (t104.length : Int)) = true := decide_eq_true c3
      have c3b1 : decide (0 < t104.length) = true := decide_eq_true (by omega)
      clear c3
      by_cases c4 : ((((rd_T37 t104 0).f0).toList) == ([111, 110] : List UInt8) && (((rd_T37 t104 0).f1) == 0 && (((rd_T37 t104 0).f2) == 60 && (((rd_T37 t104 0).f3) == 100)))) = true
      · rw [if_pos c4] at H
        have c4b0 : ((((rd_T37 t104 0).f0).toList) == ([111, 110] : List UInt8) && (((rd_T37 t104 0).f1) == 0 && (((rd_T37 t104 0).f2) == 60 && (((rd_T37 t104 0).f3) == 100)))) = true := c4
        (try (have c4b1 : decide ((((rd_T37 t104 0).f0).toList) = ([111, 110] : List UInt8) && (((rd_T37 t104 0).f1) == 0 && (((rd_T37 t104 0).f2) == 60 && (((rd_T37 t104 0).f3) == 100)))) = true := by simpa using c4))
        (try (have c4b2 : ((((rd_T37 t104 0).f0).toList) == ([111, 110] : List UInt8) && (((rd_T37 t104 0).f1) == 0 && (((rd_T37 t104 0).f2) == 60 && (((rd_T37 t104 0).f3) == 100)))) = true := by simpa using c4))
        clear c4
        by_cases c5 : 1 < (t104.length : Int)
        · rw [if_pos c5] at H
          have c5b0 : decide (1 < (t104.length : Int)) = true := decide_eq_true c5
          have c5b1 : decide (1 < t104.length) = true := decide_eq_true (by omega)
          clear c5
          obtain rfl := Option.some.inj H
          go_enter Try.func8, Try.ntmps8
          go_wp2_with (first | ((with_reducible refine gate_dst (N := 2) rfl ?_); refine Kd.R_lit (Kd.int .u8) _ 5 ?hg (N := 2) ?hd (xs := ([144, 60, 100, 62, 0] : List Int)) (inner := [.int .u8 144, .int .u8 60, .int .u8 100, .int .u8 62, .int .u8 0]) (ok := fun _ => True) (okp := fun _ => True) ?hr ?hp (fun _ hk => hk) trivial (Below.refl _ _) (Nat.le_refl _) (by simp) ?_; (case hd => rfl); (case hg => rfl); (case hr => first | (go_simp; done) | (go_simp; rfl)); (case hp => exact (Reps.one (show Kd.M (Kd.int .u8) _ _ _ 144 [.int .u8 144] from rfl) (Reps.one (show Kd.M (Kd.int .u8) _ _ _ 60 [.int .u8 60] from rfl) (Reps.one (show Kd.M (Kd.int .u8) _ _ _ 100 [.int .u8 100] from rfl) (Reps.one (show Kd.M (Kd.int .u8) _ _ _ 62 [.int .u8 62] from rfl) (Reps.one (show Kd.M (Kd.int .u8) _ _ _ 0 [.int .u8 0] from rfl) (Reps.none _ _))))))); intro v102 w6 ho7 hb hg_ hnew_; clear hg_ hnew_; (first | rw [← Ny101.out] at ho7 | (simp only [Int.reduceToNat] at ho7; rw [← Ny101.out] at ho7)); have n0_ := Aside0.mk (Kd.R_lower ho7 (below_size (by repeat (first | (with_reducible first | exact HB.out | apply below_alloc | apply pw_below_drewN | apply below_drew1) | exact HB.out)))); have n1_ := Aside0.mk (below_step (by repeat (first | (with_reducible first | exact HB.out | apply below_alloc | apply pw_below_drewN | apply below_drew1) | exact HB.out)) hb); clear HB; have HO103 := n0_; have HB := n1_; clear n0_ n1_; clear hb ho7; obtain ⟨Ao8, co8, eo8⟩ := Kd.R_slice HO103.out; subst eo8) | ((with_reducible refine gate_callee (f := 10) rfl ?_); refine goesL_ (some 3) rfl rfl Try.func10 (by kernel_rfl) rfl #[.slice Ao8 y101.length co8] rfl (by (try simp only [List.map_toArray, List.map_cons, List.map_nil]); first | done | rfl | (simp only [List.length_drop, List.length_take]; rfl)) ?_; (with_reducible refine (message_Read.calls k _ _ y101 t104 _ ?side1 ?side2 A1.out).mono ?_); (case side1 => repeat (first | exact (Kd.R_reads' HO103.out).2.2 | (with_reducible refine Kd.C_alloc ?_ _) | (with_reducible refine Kd.C_drewN ?_ _) | (with_reducible refine Kd.C_drew ?_))); (case side2 => exact (Kd.R_reads' HO103.out).2.1); rintro e w9 ⟨v105, rfl, ho0, hb⟩; refine ⟨_, rfl, ?_⟩; have n0_ := Aside0.mk (Kd.R_below (by (with_reducible repeat (first | apply Kd.R_alloc | apply Kd.R_drewN | apply Kd.R_drew)); exact HO103.out) hb); have n1_ := Aside0.mk (Kd.R_lower ho0 (below_size (by repeat (first | (with_reducible first | exact HB.out | apply below_alloc | apply pw_below_drewN | apply below_drew1) | exact HB.out)))); have n2_ := Aside0.mk (below_step (by repeat (first | (with_reducible first | exact HB.out | apply below_alloc | apply pw_below_drewN | apply below_drew1) | exact HB.out)) hb); clear HO103; clear HB; have HO103 := n0_; have HO106 := n1_; have HB := n2_; clear n0_ n1_ n2_; (try clear hb); (try clear hb2); (try clear hk); (try clear hi); (try clear ho0); obtain ⟨Ao10, co10, eo10⟩ := Kd.R_slice HO106.out; subst eo10; have p107 : 0 ≤ (0 : Int) := (by omega); have q107 : 0 < (t104.length : Int) := of_decide_eq_true (by first | (with_reducible assumption) | assumption); obtain ⟨ad107, e107, hx107_0, hx107_1, hx107_2, hx107_3⟩ := at_T37 (Kd.R_reads' HO106.out).2.2 0 p107 q107; cases e107; have qi107 : (0 < t104.length) = True := eq_true (by omega); (try rw [show ((0 : Int)).toNat = 0 from rfl] at hx107_0); (try rw [show 0 * 4 = 0 from rfl] at hx107_0); (try rw [Addr.add_zero'] at hx107_0); (try rw [show ((0 : Int)).toNat = 0 from rfl] at hx107_1); (try rw [show 0 * 4 = 0 from rfl] at hx107_1); (try rw [Addr.add_zero'] at hx107_1); (try rw [show ((0 : Int)).toNat = 0 from rfl] at hx107_2); (try rw [show 0 * 4 = 0 from rfl] at hx107_2); (try rw [Addr.add_zero'] at hx107_2); (try rw [show ((0 : Int)).toNat = 0 from rfl] at hx107_3); (try rw [show 0 * 4 = 0 from rfl] at hx107_3); (try rw [Addr.add_zero'] at hx107_3); replace p107 := eq_true p107; replace q107 := eq_true q107; have p108 : 0 ≤ (1 : Int) := (by omega); have q108 : 1 < (t104.length : Int) := of_decide_eq_true (by first | (with_reducible assumption) | assumption); obtain ⟨ad108, e108, hx108_0, hx108_1, hx108_2, hx108_3⟩ := at_T37 (Kd.R_reads' HO106.out).2.2 1 p108 q108; obtain rfl : ad107 = ad108 := (by injection e108); (try simp only [show (1 : Int).toNat = 1 from rfl, Nat.reduceMul, Nat.reduceEqDiff, Go.Addr.add, ↓reduceIte] at hx108_0); (try simp only [show (1 : Int).toNat = 1 from rfl, Nat.reduceMul, Nat.reduceEqDiff, Go.Addr.add, ↓reduceIte] at hx108_1); (try simp only [show (1 : Int).toNat = 1 from rfl, Nat.reduceMul, Nat.reduceEqDiff, Go.Addr.add, ↓reduceIte] at hx108_2); (try simp only [show (1 : Int).toNat = 1 from rfl, Nat.reduceMul, Nat.reduceEqDiff, Go.Addr.add, ↓reduceIte] at hx108_3); have qi108 : (1 < t104.length) = True := eq_true (by omega); (try rw [show ((1 : Int)).toNat = 1 from rfl] at hx108_0); (try rw [show 1 * 4 = 4 from rfl] at hx108_0); (try rw [show ((1 : Int)).toNat = 1 from rfl] at hx108_1); (try rw [show 1 * 4 = 4 from rfl] at hx108_1); (try rw [show ((1 : Int)).toNat = 1 from rfl] at hx108_2); (try rw [show 1 * 4 = 4 from rfl] at hx108_2); (try rw [show ((1 : Int)).toNat = 1 from rfl] at hx108_3); (try rw [show 1 * 4 = 4 from rfl] at hx108_3); replace p108 := eq_true p108; replace q108 := eq_true q108))
          go_ret
          exact ⟨by first | rfl | (simp [errW_none, errW_some] <;> rfl) | (simp [*, errW_none, errW_some] <;> rfl), by repeat (first | (with_reducible first | exact HB.out | apply below_alloc | apply pw_below_drewN | apply below_drew1) | exact HB.out)⟩
        · rw [if_neg c5] at H
          exact absurd H (by simp)
      · rw [if_neg c4] at H
        have c4b0 : ((((rd_T37 t104 0).f0).toList) == ([111, 110] : List UInt8) && (((rd_T37 t104 0).f1) == 0 && (((rd_T37 t104 0).f2) == 60 && (((rd_T37 t104 0).f3) == 100)))) = false := by simpa using c4
        (try (have c4b1 : decide ((((rd_T37 t104 0).f0).toList) = ([111, 110] : List UInt8) && (((rd_T37 t104 0).f1) == 0 && (((rd_T37 t104 0).f2) == 60 && (((rd_T37 t104 0).f3) == 100)))) = false := by simpa using c4))
        (try (have c4b2 : ((((rd_T37 t104 0).f0).toList) == ([111, 110] : List UInt8) && (((rd_T37 t104 0).f1) == 0 && (((rd_T37 t104 0).f2) == 60 && (((rd_T37 t104 0).f3) == 100)))) = false := by simpa using c4))
        (try (have c4b3 : ¬ ((((rd_T37 t104 0).f0).toList) = ([111, 110] : List UInt8) && (((rd_T37 t104 0).f1) == 0 && (((rd_T37 t104 0).f2) == 60 && (((rd_T37 t104 0).f3) == 100)))) := by simpa using c4))
        clear c4
        obtain rfl := Option.some.inj H
        go_enter Try.func8, Try.ntmps8
        go_wp2_with (first | ((with_reducible refine gate_dst (N := 2) rfl ?_); refine Kd.R_lit (Kd.int .u8) _ 5 ?hg (N := 2) ?hd (xs := ([144, 60, 100, 62, 0] : List Int)) (inner := [.int .u8 144, .int .u8 60, .int .u8 100, .int .u8 62, .int .u8 0]) (ok := fun _ => True) (okp := fun _ => True) ?hr ?hp (fun _ hk => hk) trivial (Below.refl _ _) (Nat.le_refl _) (by simp) ?_; (case hd => rfl); (case hg => rfl); (case hr => first | (go_simp; done) | (go_simp; rfl)); (case hp => exact (Reps.one (show Kd.M (Kd.int .u8) _ _ _ 144 [.int .u8 144] from rfl) (Reps.one (show Kd.M (Kd.int .u8) _ _ _ 60 [.int .u8 60] from rfl) (Reps.one (show Kd.M (Kd.int .u8) _ _ _ 100 [.int .u8 100] from rfl) (Reps.one (show Kd.M (Kd.int .u8) _ _ _ 62 [.int .u8 62] from rfl) (Reps.one (show Kd.M (Kd.int .u8) _ _ _ 0 [.int .u8 0] from rfl) (Reps.none _ _))))))); intro v102 w11 ho12 hb hg_ hnew_; clear hg_ hnew_; (first | rw [← Ny101.out] at ho12 | (simp only [Int.reduceToNat] at ho12; rw [← Ny101.out] at ho12)); have n0_ := Aside0.mk (Kd.R_lower ho12 (below_size (by repeat (first | (with_reducible first | exact HB.out | apply below_alloc | apply pw_below_drewN | apply below_drew1) | exact HB.out)))); have n1_ := Aside0.mk (below_step (by repeat (first | (with_reducible first | exact HB.out | apply below_alloc | apply pw_below_drewN | apply below_drew1) | exact HB.out)) hb); clear HB; have HO103 := n0_; have HB := n1_; clear n0_ n1_; clear hb ho12; obtain ⟨Ao13, co13, eo13⟩ := Kd.R_slice HO103.out; subst eo13) | ((with_reducible refine gate_callee (f := 10) rfl ?_); refine goesL_ (some 3) rfl rfl Try.func10 (by kernel_rfl) rfl #[.slice Ao13 y101.length co13] rfl (by (try simp only [List.map_toArray, List.map_cons, List.map_nil]); first | done | rfl | (simp only [List.length_drop, List.length_take]; rfl)) ?_; (with_reducible refine (message_Read.calls k _ _ y101 t104 _ ?side1 ?side2 A1.out).mono ?_); (case side1 => repeat (first | exact (Kd.R_reads' HO103.out).2.2 | (with_reducible refine Kd.C_alloc ?_ _) | (with_reducible refine Kd.C_drewN ?_ _) | (with_reducible refine Kd.C_drew ?_))); (case side2 => exact (Kd.R_reads' HO103.out).2.1); rintro e w14 ⟨v105, rfl, ho0, hb⟩; refine ⟨_, rfl, ?_⟩; have n0_ := Aside0.mk (Kd.R_below (by (with_reducible repeat (first | apply Kd.R_alloc | apply Kd.R_drewN | apply Kd.R_drew)); exact HO103.out) hb); have n1_ := Aside0.mk (Kd.R_lower ho0 (below_size (by repeat (first | (with_reducible first | exact HB.out | apply below_alloc | apply pw_below_drewN | apply below_drew1) | exact HB.out)))); have n2_ := Aside0.mk (below_step (by repeat (first | (with_reducible first | exact HB.out | apply below_alloc | apply pw_below_drewN | apply below_drew1) | exact HB.out)) hb); clear HO103; clear HB; have HO103 := n0_; have HO106 := n1_; have HB := n2_; clear n0_ n1_ n2_; (try clear hb); (try clear hb2); (try clear hk); (try clear hi); (try clear ho0); obtain ⟨Ao15, co15, eo15⟩ := Kd.R_slice HO106.out; subst eo15; have p107 : 0 ≤ (0 : Int) := (by omega); have q107 : 0 < (t104.length : Int) := of_decide_eq_true (by first | (with_reducible assumption) | assumption); obtain ⟨ad107, e107, hx107_0, hx107_1, hx107_2, hx107_3⟩ := at_T37 (Kd.R_reads' HO106.out).2.2 0 p107 q107; cases e107; have qi107 : (0 < t104.length) = True := eq_true (by omega); (try rw [show ((0 : Int)).toNat = 0 from rfl] at hx107_0); (try rw [show 0 * 4 = 0 from rfl] at hx107_0); (try rw [Addr.add_zero'] at hx107_0); (try rw [show ((0 : Int)).toNat = 0 from rfl] at hx107_1); (try rw [show 0 * 4 = 0 from rfl] at hx107_1); (try rw [Addr.add_zero'] at hx107_1); (try rw [show ((0 : Int)).toNat = 0 from rfl] at hx107_2); (try rw [show 0 * 4 = 0 from rfl] at hx107_2); (try rw [Addr.add_zero'] at hx107_2); (try rw [show ((0 : Int)).toNat = 0 from rfl] at hx107_3); (try rw [show 0 * 4 = 0 from rfl] at hx107_3); (try rw [Addr.add_zero'] at hx107_3); replace p107 := eq_true p107; replace q107 := eq_true q107))
        go_ret
        exact ⟨by first | rfl | (simp [errW_none, errW_some] <;> rfl) | (simp [*, errW_none, errW_some] <;> rfl), by repeat (first | (with_reducible first | exact HB.out | apply below_alloc | apply pw_below_drewN | apply below_drew1) | exact HB.out)⟩
    · rw [if_neg c3] at H
      exact absurd H (by simp)
  · rw [if_neg c2] at H
    have c2b0 : ((t104.length : Int) == 2) = false := beq_eq_false_iff_ne.mpr c2
    have c2b1 : ((t104.length : Int) != 2) = true := bne_iff_ne.mpr c2
    obtain rfl := Option.some.inj H
    go_enter Try.func8, Try.ntmps8
    go_wp2_with (first | ((with_reducible refine gate_dst (N := 2) rfl ?_); refine Kd.R_lit (Kd.int .u8) _ 5 ?hg (N := 2) ?hd (xs := ([144, 60, 100, 62, 0] : List Int)) (inner := [.int .u8 144, .int .u8 60, .int .u8 100, .int .u8 62, .int .u8 0]) (ok := fun _ => True) (okp := fun _ => True) ?hr ?hp (fun _ hk => hk) trivial (Below.refl _ _) (Nat.le_refl _) (by simp) ?_; (case hd => rfl); (case hg => rfl); (case hr => first | (go_simp; done) | (go_simp; rfl)); (case hp => exact (Reps.one (show Kd.M (Kd.int .u8) _ _ _ 144 [.int .u8 144] from rfl) (Reps.one (show Kd.M (Kd.int .u8) _ _ _ 60 [.int .u8 60] from rfl) (Reps.one (show Kd.M (Kd.int .u8) _ _ _ 100 [.int .u8 100] from rfl) (Reps.one (show Kd.M (Kd.int .u8) _ _ _ 62 [.int .u8 62] from rfl) (Reps.one (show Kd.M (Kd.int .u8) _ _ _ 0 [.int .u8 0] from rfl) (Reps.none _ _))))))); intro v102 w16 ho17 hb hg_ hnew_; clear hg_ hnew_; (first | rw [← Ny101.out] at ho17 | (simp only [Int.reduceToNat] at ho17; rw [← Ny101.out] at ho17)); have n0_ := Aside0.mk (Kd.R_lower ho17 (below_size (by repeat (first | (with_reducible first | exact HB.out | apply below_alloc | apply pw_below_drewN | apply below_drew1) | exact HB.out)))); have n1_ := Aside0.mk (below_step (by repeat (first | (with_reducible first | exact HB.out | apply below_alloc | apply pw_below_drewN | apply below_drew1) | exact HB.out)) hb); clear HB; have HO103 := n0_; have HB := n1_; clear n0_ n1_; clear hb ho17; obtain ⟨Ao18, co18, eo18⟩ := Kd.R_slice HO103.out; subst eo18) | ((with_reducible refine gate_callee (f := 10) rfl ?_); refine goesL_ (some 3) rfl rfl Try.func10 (by kernel_rfl) rfl #[.slice Ao18 y101.length co18] rfl (by (try simp only [List.map_toArray, List.map_cons, List.map_nil]); first | done | rfl | (simp only [List.length_drop, List.length_take]; rfl)) ?_; (with_reducible refine (message_Read.calls k _ _ y101 t104 _ ?side1 ?side2 A1.out).mono ?_); (case side1 => repeat (first | exact (Kd.R_reads' HO103.out).2.2 | (with_reducible refine Kd.C_alloc ?_ _) | (with_reducible refine Kd.C_drewN ?_ _) | (with_reducible refine Kd.C_drew ?_))); (case side2 => exact (Kd.R_reads' HO103.out).2.1); rintro e w19 ⟨v105, rfl, ho0, hb⟩; refine ⟨_, rfl, ?_⟩; have n0_ := Aside0.mk (Kd.R_below (by (with_reducible repeat (first | apply Kd.R_alloc | apply Kd.R_drewN | apply Kd.R_drew)); exact HO103.out) hb); have n1_ := Aside0.mk (Kd.R_lower ho0 (below_size (by repeat (first | (with_reducible first | exact HB.out | apply below_alloc | apply pw_below_drewN | apply below_drew1) | exact HB.out)))); have n2_ := Aside0.mk (below_step (by repeat (first | (with_reducible first | exact HB.out | apply below_alloc | apply pw_below_drewN | apply below_drew1) | exact HB.out)) hb); clear HO103; clear HB; have HO103 := n0_; have HO106 := n1_; have HB := n2_; clear n0_ n1_ n2_; (try clear hb); (try clear hb2); (try clear hk); (try clear hi); (try clear ho0); obtain ⟨Ao20, co20, eo20⟩ := Kd.R_slice HO106.out; subst eo20))
    go_ret
    exact ⟨by first | rfl | (simp [errW_none, errW_some] <;> rfl) | (simp [*, errW_none, errW_some] <;> rfl), by repeat (first | (with_reducible first | exact HB.out | apply below_alloc | apply pw_below_drewN | apply below_drew1) | exact HB.out)⟩

/-! ### serinettelaw21_same: function 9 -/
def serinettelaw21_same.l0 : Nat → List (S37) → List (S37) → Int → Int → Option (Bool)
  | 0, _, _, _, _ => none
  | k + 1, x0, x1, x12, x13 => if x13 < x12 then (if 0 ≤ x13 then (if x13 < (x0.length : Int) then (if x13 < (x1.length : Int) then (if (!((((rd_T37 x0 x13).f0).toList) == (((rd_T37 x1 x13).f0).toList)) || (!(((rd_T37 x0 x13).f1) == ((rd_T37 x1 x13).f1)) || (!(((rd_T37 x0 x13).f2) == ((rd_T37 x1 x13).f2)) || (!(((rd_T37 x0 x13).f3) == ((rd_T37 x1 x13).f3)))))) = true then (some false) else (serinettelaw21_same.l0 k x0 x1 x12 (wrap64 (x13 + 1)))) else (none)) else (none)) else (none)) else (some true)
def serinettelaw21_same.f (k : Nat) (l0 : List (S37)) (l1 : List (S37)) : Option (Bool) := if (l0.length : Int) = (l1.length : Int) then (serinettelaw21_same.l0 k l0 l1 (l0.length : Int) 0) else (some false)
theorem serinettelaw21_same.mono_l : ∀ k, (∀ y0 y1 y2 y3, LeO (serinettelaw21_same.l0 k y0 y1 y2 y3) (serinettelaw21_same.l0 (k + 1) y0 y1 y2 y3))
  | 0 => fun _ _ _ _ r h => by simp [serinettelaw21_same.l0] at h
  | k + 1 => by
    have ih0 := serinettelaw21_same.mono_l k
    · intro y0 y1 y2 y3
      unfold serinettelaw21_same.l0
      repeat' first
      | (with_reducible exact ih0 _ _ _ _)
      | (with_reducible exact LeO.refl _)
      | (with_reducible exact LeO.none _)
      | (with_reducible refine LeO.ite ?_ ?_)
      | (with_reducible refine LeO.bind ?_ (fun _ => ?_))
      | exact ih0 _ _ _ _
      | exact LeO.none _
      | refine LeO.ite ?_ ?_
      | refine LeO.bind ?_ (fun _ => ?_)
theorem serinettelaw21_same.mono : ∀ a0 a1 k, LeO (serinettelaw21_same.f k a0 a1) (serinettelaw21_same.f (k + 1) a0 a1) := by
  intro a0 a1 k
  have ih0 := serinettelaw21_same.mono_l k
  unfold serinettelaw21_same.f
  repeat' first
      | (with_reducible exact ih0 _ _ _ _)
      | (with_reducible exact LeO.refl _)
      | (with_reducible exact LeO.none _)
      | (with_reducible refine LeO.ite ?_ ?_)
      | (with_reducible refine LeO.bind ?_ (fun _ => ?_))
      | exact ih0 _ _ _ _
      | exact LeO.none _
      | refine LeO.ite ?_ ?_
      | refine LeO.bind ?_ (fun _ => ?_)
set_option maxHeartbeats 8000000 in
set_option maxRecDepth 100000 in
theorem serinettelaw21_same.calls (k : Nat) (A0 : Option Addr) (c0 : Nat) (l0 : List (S37)) (A1 : Option Addr) (c1 : Nat) (l1 : List (S37)) (r : Bool) (w : World) (hr0 : Kd.C k37 w A0 l0.length l0) (hc0 : l0.length ≤ c0) (hr1 : Kd.C k37 w A1 l1.length l1) (hc1 : l1.length ≤ c1) (h : serinettelaw21_same.f k l0 l1 = some r) :
    Calls Try.prog 9 #[.slice A0 l0.length c0, .slice A1 l1.length c1] w fun e w' => e = .returned (.bool r) ∧ Drawn0 w w' := by
  have hu37 := Try.underlying37
  have HR0 := Aside0.mk hr0
  have HC0 := Aside0.mk hc0
  clear hr0 hc0
  have HR1 := Aside0.mk hr1
  have HC1 := Aside0.mk hc1
  clear hr1 hc1
  have H : (if (l0.length : Int) = (l1.length : Int) then (serinettelaw21_same.l0 k l0 l1 (l0.length : Int) 0) else (some false)) = some r := h
  clear h
  by_cases c3 : (l0.length : Int) = (l1.length : Int)
  · rw [if_pos c3] at H
    have c3b0 : ((l0.length : Int) == (l1.length : Int)) = true := beq_iff_eq.mpr c3
    have c3b1 : ((l0.length : Int) != (l1.length : Int)) = false := bne_eq_false_iff_eq.mpr c3
    have c3b2 : (l0.length == l1.length) = true := by first | simpa using c3 | (simp at c3 ⊢; omega)
    clear c3
    have H' := Aside0.mk H
    clear H
    go_enter Try.func9, Try.ntmps9
    go_wp2
    repeat (go_quiet (fail); try go_wp2)
    go_loopg [13] k (fun kq v13 w' => ∃ (x13_1 : Int), v13 = .int .i64 x13_1 ∧ Aside0 (serinettelaw21_same.l0 kq l0 l1 (l0.length : Int) x13_1 = some r) ∧ Aside0 (kq ≤ k) ∧ Drawn0 w w')
    case atStart => exact ⟨(0), (by first | rfl | (simp; done) | (simp [*]; done)), H', ⟨Nat.le_refl _⟩, by repeat (first | exact Drawn0.refl _ | apply Drawn0.step)⟩
    case round =>
      clear H'
      try clear c1
      try clear p2
      try clear c3
      try clear c3b0
      try clear c3b1
      try clear c3b2
      obtain ⟨x13_1, rfl, HA, HK1, ⟨m1, rfl⟩⟩ := hrel
      cases gk with
      | zero => exact absurd HA.out (by simp [serinettelaw21_same.l0])
      | succ k1 =>
        have H := HA.out
        clear HA
        simp only [serinettelaw21_same.l0] at H
        by_cases c4 : x13_1 < (l0.length : Int)
        · rw [if_pos c4] at H
          have c4b0 : decide (x13_1 < (l0.length : Int)) = true := decide_eq_true c4
          clear c4
          by_cases c5 : 0 ≤ x13_1
          · rw [if_pos c5] at H
            have c5b0 : decide (0 ≤ x13_1) = true := decide_eq_true c5
            clear c5
            by_cases c6 : x13_1 < (l0.length : Int)
            · rw [if_pos c6] at H
              have c6b0 : decide (x13_1 < (l0.length : Int)) = true := decide_eq_true c6
              clear c6
              by_cases c7 : x13_1 < (l1.length : Int)
              · rw [if_pos c7] at H
                have c7b0 : decide (x13_1 < (l1.length : Int)) = true := decide_eq_true c7
                clear c7
                by_cases c8 : (!((((rd_T37 l0 x13_1).f0).toList) == (((rd_T37 l1 x13_1).f0).toList)) || (!(((rd_T37 l0 x13_1).f1) == ((rd_T37 l1 x13_1).f1)) || (!(((rd_T37 l0 x13_1).f2) == ((rd_T37 l1 x13_1).f2)) || (!(((rd_T37 l0 x13_1).f3) == ((rd_T37 l1 x13_1).f3)))))) = true
                · rw [if_pos c8] at H
                  have c8b0 : (!((((rd_T37 l0 x13_1).f0).toList) == (((rd_T37 l1 x13_1).f0).toList)) || (!(((rd_T37 l0 x13_1).f1) == ((rd_T37 l1 x13_1).f1)) || (!(((rd_T37 l0 x13_1).f2) == ((rd_T37 l1 x13_1).f2)) || (!(((rd_T37 l0 x13_1).f3) == ((rd_T37 l1 x13_1).f3)))))) = true := c8
                  clear c8
                  obtain rfl := Option.some.inj H
                  have p109 : 0 ≤ (x13_1 : Int) := of_decide_eq_true (by first | (with_reducible assumption) | assumption)
                  have q109 : x13_1 < (l0.length : Int) := of_decide_eq_true (by first | (with_reducible assumption) | assumption)
                  obtain ⟨ad109, e109, hx109_0, hx109_1, hx109_2, hx109_3⟩ := at_T37 HR0.out x13_1 p109 q109
                  cases e109
                  replace p109 := eq_true p109
                  replace q109 := eq_true q109
                  have p110 : 0 ≤ (x13_1 : Int) := of_decide_eq_true (by first | (with_reducible assumption) | assumption)
                  have q110 : x13_1 < (l1.length : Int) := of_decide_eq_true (by first | (with_reducible assumption) | assumption)
                  obtain ⟨ad110, e110, hx110_0, hx110_1, hx110_2, hx110_3⟩ := at_T37 HR1.out x13_1 p110 q110
                  cases e110
                  replace p110 := eq_true p110
                  replace q110 := eq_true q110
                  go_wp2
                  repeat (go_quiet (fail); try go_wp2)
                  go_ret
                  exact ⟨by first | rfl | (simp; done) | (simp [*]; done), by repeat (first | exact Drawn0.refl _ | apply Drawn0.step)⟩
                · rw [if_neg c8] at H
                  have c8b0 : (!((((rd_T37 l0 x13_1).f0).toList) == (((rd_T37 l1 x13_1).f0).toList)) || (!(((rd_T37 l0 x13_1).f1) == ((rd_T37 l1 x13_1).f1)) || (!(((rd_T37 l0 x13_1).f2) == ((rd_T37 l1 x13_1).f2)) || (!(((rd_T37 l0 x13_1).f3) == ((rd_T37 l1 x13_1).f3)))))) = false := by simpa using c8
                  clear c8
                  have H' := Aside0.mk H
                  clear H
                  have p109 : 0 ≤ (x13_1 : Int) := of_decide_eq_true (by first | (with_reducible assumption) | assumption)
                  have q109 : x13_1 < (l0.length : Int) := of_decide_eq_true (by first | (with_reducible assumption) | assumption)
                  obtain ⟨ad109, e109, hx109_0, hx109_1, hx109_2, hx109_3⟩ := at_T37 HR0.out x13_1 p109 q109
                  cases e109
                  replace p109 := eq_true p109
                  replace q109 := eq_true q109
                  have p110 : 0 ≤ (x13_1 : Int) := of_decide_eq_true (by first | (with_reducible assumption) | assumption)
                  have q110 : x13_1 < (l1.length : Int) := of_decide_eq_true (by first | (with_reducible assumption) | assumption)
                  obtain ⟨ad110, e110, hx110_0, hx110_1, hx110_2, hx110_3⟩ := at_T37 HR1.out x13_1 p110 q110
                  cases e110
                  replace p110 := eq_true p110
                  replace q110 := eq_true q110
                  go_wp2
                  repeat (go_quiet (fail); try go_wp2)
                  go_roundg k1
                  case measure => have := HK1.out; omega
                  case rel => exact ⟨(wrap64 (x13_1 + 1)), (by first | rfl | (simp; done) | (simp [*]; done)), H', ⟨by have := HK1.out; omega⟩, by repeat (first | exact Drawn0.refl _ | apply Drawn0.step)⟩
              · rw [if_neg c7] at H
                exact absurd H (by simp)
            · rw [if_neg c6] at H
              exact absurd H (by simp)
          · rw [if_neg c5] at H
            exact absurd H (by simp)
        · rw [if_neg c4] at H
          have c4b0 : decide (x13_1 < (l0.length : Int)) = false := decide_eq_false c4
          clear c4
          obtain rfl := Option.some.inj H
          go_wp2
          repeat (go_quiet (fail); try go_wp2)
          go_ret
          exact ⟨by first | rfl | (simp; done) | (simp [*]; done), by repeat (first | exact Drawn0.refl _ | apply Drawn0.step)⟩
  · rw [if_neg c3] at H
    have c3b0 : ((l0.length : Int) == (l1.length : Int)) = false := beq_eq_false_iff_ne.mpr c3
    have c3b1 : ((l0.length : Int) != (l1.length : Int)) = true := bne_iff_ne.mpr c3
    have c3b2 : (l0.length == l1.length) = false := by first | simpa using c3 | (simp at c3 ⊢; omega)
    obtain rfl := Option.some.inj H
    go_enter Try.func9, Try.ntmps9
    go_wp2
    repeat (go_quiet (fail); try go_wp2)
    go_ret
    exact ⟨by first | rfl | (simp; done) | (simp [*]; done), by repeat (first | exact Drawn0.refl _ | apply Drawn0.step)⟩

-- NOT PRINTED: function 13 (serinetteref21_New)

/-! ### serinetteref21_wants: function 27 -/
def serinetteref21_wants.f (a0 : Int) : Option (Int) := if (wrap64 (Int.tdiv a0 16)) = 12 then (some 1) else (if (wrap64 (Int.tdiv a0 16)) = 13 then (some 1) else (some 2))
set_option maxHeartbeats 8000000 in
set_option maxRecDepth 100000 in
theorem serinetteref21_wants.calls (a0 : Int) (r : Int) (w : World) (h : serinetteref21_wants.f a0 = some r) :
    Calls Try.prog 27 #[.int .i64 a0] w fun e w' => e = .returned (.int .i64 r) ∧ Drawn0 w w' := by
  have H : (if (wrap64 (Int.tdiv a0 16)) = 12 then (some 1) else (if (wrap64 (Int.tdiv a0 16)) = 13 then (some 1) else (some 2))) = some r := h
  clear h
  by_cases c2 : (wrap64 (Int.tdiv a0 16)) = 12
  · rw [if_pos c2] at H
    have c2b0 : ((wrap64 (Int.tdiv a0 16)) == 12) = true := beq_iff_eq.mpr c2
    have c2b1 : ((wrap64 (Int.tdiv a0 16)) != 12) = false := bne_eq_false_iff_eq.mpr c2
    clear c2
    obtain rfl := Option.some.inj H
    go_enter Try.func27, Try.ntmps27
    go_wp2
    go_ret
    exact ⟨by first | rfl | (simp; done) | (simp [*]; done), by repeat (first | exact Drawn0.refl _ | apply Drawn0.step)⟩
  · rw [if_neg c2] at H
    have c2b0 : ((wrap64 (Int.tdiv a0 16)) == 12) = false := beq_eq_false_iff_ne.mpr c2
    have c2b1 : ((wrap64 (Int.tdiv a0 16)) != 12) = true := bne_iff_ne.mpr c2
    by_cases c3 : (wrap64 (Int.tdiv a0 16)) = 13
    · rw [if_pos c3] at H
      have c3b0 : ((wrap64 (Int.tdiv a0 16)) == 13) = true := beq_iff_eq.mpr c3
      have c3b1 : ((wrap64 (Int.tdiv a0 16)) != 13) = false := bne_eq_false_iff_eq.mpr c3
      clear c3
      obtain rfl := Option.some.inj H
      go_enter Try.func27, Try.ntmps27
      go_wp2
      go_ret
      exact ⟨by first | rfl | (simp; done) | (simp [*]; done), by repeat (first | exact Drawn0.refl _ | apply Drawn0.step)⟩
    · rw [if_neg c3] at H
      have c3b0 : ((wrap64 (Int.tdiv a0 16)) == 13) = false := beq_eq_false_iff_ne.mpr c3
      have c3b1 : ((wrap64 (Int.tdiv a0 16)) != 13) = true := bne_iff_ne.mpr c3
      obtain rfl := Option.some.inj H
      go_enter Try.func27, Try.ntmps27
      go_wp2
      go_ret
      exact ⟨by first | rfl | (simp; done) | (simp [*]; done), by repeat (first | exact Drawn0.refl _ | apply Drawn0.step)⟩

-- NOT PRINTED: function 28 (serinetteref21_Reader_complete)

-- NOT PRINTED: function 15 (serinetteref21_Reader_Feed)

/-! ### serinetteref21_Read: function 11 -/

-- NOT PRINTED: function 29 (slices_Clone_int_int)

-- NOT PRINTED: function 16 (message_Reader_Copy)

/-! ### serinettelaw21_ReaderFeeds: function 4 -/
section
attribute [local go_sem] cell_mk frozen_mk
def st0' : RS := (0, [], List.replicate 512 0)
/-- What is asked of the pieces that are left. -/
def feedsL (k : Nat) : List Int → RS → List Int → Option Bool
  | [], s, rest => (serinettelaw21_same.f k (rdRun s rest).2 (rdRun s rest).2).bind fun t => if t = true then serinettelaw21_awake.f k else some false
  | c :: cs, s, rest => (serinettelaw21_same.f k (rdRun s (rest.take (min (c % 7).toNat rest.length))).2 (rdRun s (rest.take (min (c % 7).toNat rest.length))).2).bind fun t => if t = true then feedsL k cs (rdRun s (rest.take (min (c % 7).toNat rest.length))).1 (rest.drop (min (c % 7).toNat rest.length)) else some false
theorem feedsL_mono (k : Nat) (l : List Int) : ∀ s rest, LeO (feedsL k l s rest) (feedsL (k + 1) l s rest) := by
  induction l with
  | nil => intro s rest; exact LeO.bind (serinettelaw21_same.mono _ _ _) (fun t => LeO.ite (serinettelaw21_awake.mono _) (LeO.refl _))
  | cons c cs ih => intro s rest; exact LeO.bind (serinettelaw21_same.mono _ _ _) (fun t => LeO.ite (ih _ _) (LeO.refl _))
def serinettelaw21_ReaderFeeds.f (k : Nat) (l0 : List Int) (l1 : List Int) : Option (Bool) :=
  if l0.length > 2000 then serinettelaw21_awake.f k else if l1.length > 400 then serinettelaw21_awake.f k else
  if (∀ x ∈ l0, 0 ≤ x ∧ x ≤ 255) ∧ (∀ x ∈ l1, 0 ≤ x ∧ x ≤ 255) then (message_Read.f k l0).bind fun a => (serinetteref21_Read.f k l0).bind fun b => (serinettelaw21_same.f k a b).bind fun t => if t = true then feedsL k l1 st0' l0 else some false else none
theorem serinettelaw21_ReaderFeeds.mono : ∀ a0 a1 k, LeO (serinettelaw21_ReaderFeeds.f k a0 a1) (serinettelaw21_ReaderFeeds.f (k + 1) a0 a1) := fun a0 a1 k => by
  unfold serinettelaw21_ReaderFeeds.f
  exact LeO.ite (serinettelaw21_awake.mono _) (LeO.ite (serinettelaw21_awake.mono _) (LeO.ite (LeO.bind (message_Read.mono _ _) (fun a => LeO.bind (serinetteref21_Read.mono _ _) (fun b => LeO.bind (serinettelaw21_same.mono _ _ _) (fun t => LeO.ite (feedsL_mono _ _ _ _) (LeO.refl _))))) (LeO.none _)))
theorem Two.start {w3 w4 w5 : World} {B g g' : Nat} (h : Rd w4 w3.heap.size g 0 (.slice none 0 0) [] (List.replicate 512 0)) (h' : Rf.Rd w5 w4.heap.size g' 0 (.slice none 0 0) [] (List.replicate 512 0)) (hb : Below w4.heap.size w4 w5) (h3 : B ≤ w3.heap.size) (h4 : B ≤ w4.heap.size) : Two w5 B g g' st0' st0' (.slice none 0 0) (.slice none 0 0) := by
  have k := h.below hb
  exact ⟨⟨k.cells, Kd.R_lower k.own h3, k.len, Nat.le_trans h3 k.base, Nat.le_trans h3 k.top⟩, ⟨h'.cells, Kd.R_lower h'.own h4, h'.len, Nat.le_trans h4 h'.base, Nat.le_trans h4 h'.top⟩, fun k hk => by cases hk⟩
theorem lit5 (W : World) (g : Nat) (hg : g = W.heap.size) : Kd.C (Kd.int .u8) (W.alloc (.cells #[.int .u8 145, .int .u8 1, .int .u8 2, .int .u8 176, .int .u8 1] 5)) (some ⟨g, 0, none⟩) 5 [145, 1, 2, 176, 1] := by
  have := Kd.R_reads (d := Kd.int .u8) (e := 5) (w := W.alloc (.cells #[.int .u8 145, .int .u8 1, .int .u8 2, .int .u8 176, .int .u8 1] 5)) (base := W.heap.size) (ok := fun _ => True) (v := .slice (some ⟨W.heap.size, 0, none⟩) 5 5) (xs := [145, 1, 2, 176, 1]) ?_
  · obtain ⟨A, c, e, _, h⟩ := this
    cases e
    subst hg
    exact h
  · refine ⟨fun _ _ => trivial, [.int .u8 145, .int .u8 1, .int .u8 2, .int .u8 176, .int .u8 1], ?_, ?_⟩
    · exact World.ownsRow_lit (base := W.heap.size) (e := 5) (size := 1) W #[.int .u8 145, .int .u8 1, .int .u8 2, .int .u8 176, .int .u8 1] 5 (Nat.le_refl _) (by decide) (by rfl)
    · exact Reps.one rfl (Reps.one rfl (Reps.one rfl (Reps.one rfl (Reps.one rfl (Reps.none _ _)))))
theorem far5 {w : World} {B g : Nat} {st : Int} {dv : Value} {xs hi : List Int} (h : Rd w B g st dv xs hi) (hB : B ≤ w.heap.size) : ∀ ad : Addr, (some ⟨w.heap.size, 0, none⟩ : Option Addr) = some ad → 0 < [145, 1, 2, 176, (1 : Int)].length → ad.block ≠ g ∧ some ad.block ≠ dv.ownBlock := fun ad e _ => by
  cases e
  refine ⟨fun h' => by have := blk_lt h.cells; simp only [] at h'; omega, fun h' => ?_⟩
  obtain ⟨cs, hc⟩ := own3 h.own _ h'.symm
  have := blk_lt hc
  simp only [] at this
  omega
theorem Two.lts {W : World} {B g g' : Nat} {s t : RS} {dv dv' : Value} (T : Two W B g g' s t dv dv') : g < W.heap.size ∧ g' < W.heap.size ∧ (∀ k, dv.ownBlock = some k → k < W.heap.size) ∧ (∀ k, dv'.ownBlock = some k → k < W.heap.size) :=
  ⟨blk_lt T.a.cells, blk_lt T.b.cells, fun k e => by obtain ⟨cs, h⟩ := own3 T.a.own k e; exact blk_lt h, fun k e => by obtain ⟨cs, h⟩ := own3 T.b.own k e; exact blk_lt h⟩
def HeadF (w : World) (g g' k : Nat) (l1 : List Int) (r : Bool) (v7 v36 : Value) (W : World) : Prop :=
  ∃ (j : Nat) (s : RS) (dv dv' : Value) (A : Option Addr) (c n : Nat) (rest : List Int), j ≤ l1.length ∧ v36 = .int .i64 j ∧ v7 = .slice A n c ∧ n ≤ c ∧ n ≤ 2000 ∧ Aside0 (rest.length = n) ∧ Aside0 (Kd.C (Kd.int .u8) w A n rest) ∧ Aside0 (∀ x ∈ rest, 0 ≤ x ∧ x ≤ 255) ∧ Aside0 (feedsL k (l1.drop j) s rest = some r) ∧ Aside0 (RdOk s) ∧ Aside0 (Two W w.heap.size g g' s s dv dv') ∧ Aside0 (Below w.heap.size w W)
set_option maxHeartbeats 8000000 in
set_option maxRecDepth 100000 in
theorem feeds_early (k : Nat) (A0 : Option Addr) (c0 : Nat) (l0 : List Int) (A1 : Option Addr) (c1 : Nat) (l1 : List Int) (r : Bool) (w : World) (hr0 : Kd.C (Kd.int .u8) w A0 l0.length l0) (hr1 : Kd.C (Kd.int .u8) w A1 l1.length l1) (hx : l0.length > 2000 ∨ (¬ l0.length > 2000 ∧ l1.length > 400)) (h : serinettelaw21_awake.f k = some r) :
    Calls Try.prog 4 #[.slice A0 l0.length c0, .slice A1 l1.length c1] w fun e w' => e = .returned (.bool r) ∧ Below w.heap.size w w' := by
  have H := Aside0.mk h
  clear h hr0 hr1
  rcases hx with hx | ⟨hx, hy⟩
  · have d0 : decide (2000 < (l0.length : Int)) = true := decide_eq_true (by omega)
    have d1 : decide (2000 < l0.length) = true := decide_eq_true (by omega)
    clear hx
    go_enter Try.func4, Try.ntmps4
    go_wp2_with (go_at_call 8; refine (serinettelaw21_awake.calls k r _ H.out).mono ?_; rintro e w3 ⟨rfl, hb⟩; have HB3 := Aside0.mk hb; clear hb)
    go_ret
    exact ⟨rfl, HB3.out⟩
  · have d0 : decide (2000 < (l0.length : Int)) = false := decide_eq_false (by omega)
    have d1 : decide (2000 < l0.length) = false := decide_eq_false (by omega)
    have d2 : decide (400 < (l1.length : Int)) = true := decide_eq_true (by omega)
    have d3 : decide (400 < l1.length) = true := decide_eq_true (by omega)
    clear hx hy
    go_enter Try.func4, Try.ntmps4
    go_wp2_with (go_at_call 8; refine (serinettelaw21_awake.calls k r _ H.out).mono ?_; rintro e w3 ⟨rfl, hb⟩; have HB3 := Aside0.mk hb; clear hb)
    go_ret
    exact ⟨rfl, HB3.out⟩
set_option maxHeartbeats 8000000 in
set_option maxRecDepth 100000 in
theorem serinettelaw21_ReaderFeeds.calls (k : Nat) (A0 : Option Addr) (c0 : Nat) (l0 : List Int) (A1 : Option Addr) (c1 : Nat) (l1 : List Int) (r : Bool) (w : World) (hr0 : Kd.C (Kd.int .u8) w A0 l0.length l0) (hc0 : l0.length ≤ c0) (hr1 : Kd.C (Kd.int .u8) w A1 l1.length l1) (hc1 : l1.length ≤ c1) (h : serinettelaw21_ReaderFeeds.f k l0 l1 = some r) :
    Calls Try.prog 4 #[.slice A0 l0.length c0, .slice A1 l1.length c1] w fun e w' => e = .returned (.bool r) ∧ Below w.heap.size w w' := by
  unfold serinettelaw21_ReaderFeeds.f at h
  by_cases hx : l0.length > 2000
  · rw [if_pos hx] at h
    exact feeds_early k A0 c0 l0 A1 c1 l1 r w hr0 hr1 (.inl hx) h
  rw [if_neg hx] at h
  by_cases hy : l1.length > 400
  · rw [if_pos hy] at h
    exact feeds_early k A0 c0 l0 A1 c1 l1 r w hr0 hr1 (.inr ⟨hx, hy⟩) h
  rw [if_neg hy] at h
  by_cases hb : (∀ x ∈ l0, 0 ≤ x ∧ x ≤ 255) ∧ (∀ x ∈ l1, 0 ≤ x ∧ x ≤ 255)
  rotate_left
  · rw [if_neg hb] at h; cases h
  rw [if_pos hb] at h
  obtain ⟨hb0, hb1⟩ := hb
  obtain ⟨ra, hra, h⟩ := Option.bind_eq_some_iff.1 h
  obtain ⟨rb, hrb, h⟩ := Option.bind_eq_some_iff.1 h
  obtain ⟨t, ht, h⟩ := Option.bind_eq_some_iff.1 h
  have HR0 := Aside0.mk hr0
  have HR1 := Aside0.mk hr1
  have HA := Aside0.mk hra
  have HBb := Aside0.mk hrb
  have HT := Aside0.mk ht
  have HX0 := Aside0.mk hb0
  have HX1 := Aside0.mk hb1
  have d0 : decide (2000 < (l0.length : Int)) = false := decide_eq_false (by omega)
  have d1 : decide (2000 < l0.length) = false := decide_eq_false (by omega)
  have d2 : decide (400 < (l1.length : Int)) = false := decide_eq_false (by omega)
  have d3 : decide (400 < l1.length) = false := decide_eq_false (by omega)
  have HL0 : l0.length ≤ 2000 := by omega
  have HL1 : l1.length ≤ 400 := by omega
  have HRR := Aside0.mk hr0
  clear hra hrb ht hr0 hr1 hb0 hb1 hx hy
  cases t with
  | false =>
    simp at h
    subst h
    go_enter Try.func4, Try.ntmps4
    go_wp2_with (first | (go_at_call 10; refine (message_Read.calls k _ _ _ _ _ HR0.out hc0 HA.out).mono ?_; rintro e w1 ⟨v1, rfl, hv, hb⟩; obtain ⟨B1, q1, rfl, hq1, hC⟩ := Kd.R_reads hv; have HV1 := Aside0.mk hC; have HB1 := Aside0.mk hb; clear hv hb hC) | (go_at_call 11; refine (serinetteref21_Read.calls k _ _ _ _ _ (Kd.C_below HR0.out HB1.out) hc0 HBb.out).mono ?_; rintro e w2 ⟨v2, rfl, hv, hb⟩; obtain ⟨B2, q2, rfl, hq2, hC⟩ := Kd.R_reads hv; have HV2 := Aside0.mk hC; have HV1' := Aside0.mk (Kd.C_below HV1.out hb); have HB2 := Aside0.mk (below_step HB1.out hb); clear hv hb hC) | (go_at_call 9; refine (serinettelaw21_same.calls k _ _ _ _ _ _ false _ HV1'.out hq1 HV2.out hq2 HT.out).mono ?_; rintro e w3 ⟨rfl, nd, rfl⟩; have HB3 := Aside0.mk (pw_below_drewN HB2.out nd)))
    go_ret
    exact ⟨rfl, HB3.out⟩
  | true =>
    have HH := Aside0.mk (show feedsL k l1 st0' l0 = some r from h)
    clear h
    go_enter Try.func4, Try.ntmps4
    go_upto_region 9 with (first | (go_at_call 10; refine (message_Read.calls k _ _ _ _ _ HR0.out hc0 HA.out).mono ?_; rintro e w1 ⟨v1, rfl, hv, hb⟩; obtain ⟨B1, q1, rfl, hq1, hC⟩ := Kd.R_reads hv; have HV1 := Aside0.mk hC; have HB1 := Aside0.mk hb; clear hv hb hC) | (go_at_call 11; refine (serinetteref21_Read.calls k _ _ _ _ _ (Kd.C_below HR0.out HB1.out) hc0 HBb.out).mono ?_; rintro e w2 ⟨v2, rfl, hv, hb⟩; obtain ⟨B2, q2, rfl, hq2, hC⟩ := Kd.R_reads hv; have HV2 := Aside0.mk hC; have HV1' := Aside0.mk (Kd.C_below HV1.out hb); have HB2 := Aside0.mk (below_step HB1.out hb); clear hv hb hC) | (go_at_call 9; refine (serinettelaw21_same.calls k _ _ _ _ _ _ true _ HV1'.out hq1 HV2.out hq2 HT.out).mono ?_; rintro e w3 ⟨rfl, nd, rfl⟩; have HB3 := Aside0.mk (pw_below_drewN HB2.out nd)) | (go_at_call 12; refine (new_any _).mono ?_; rintro e w4 ⟨g, rfl, hg, hd, hb⟩; have HG4 := Aside0.mk hg; have HD4 := Aside0.mk hd; have HB4 := Aside0.mk (below_step HB3.out hb); clear hg hd hb) | (go_at_call 13; refine (Rf.new_any _).mono ?_; rintro e w5 ⟨g', rfl, hg, hd, hb⟩; have HT5 := Aside0.mk (Two.start HD4.out hd hb HB3.out.size HB4.out.size); have HB5 := Aside0.mk (below_step HB4.out hb); clear hg hd hb))
    clear HG4 HD4 HB3 HB4 HV1' HV1 HV2 HB1 HB2 hq1 hq2 HA HBb HR0 HT
    go_loopw [7, 36] (fun v7 v36 W => HeadF w g g' k l1 r v7 v36 W) (fun _ v36 _ => l1.length - (intOf v36).toNat)
    case atStart => exact ⟨0, _, _, _, A0, c0, l0.length, l0, Nat.zero_le _, rfl, rfl, hc0, HL0, ⟨rfl⟩, HRR, HX0, HH, ⟨.inl ⟨rfl, rfl⟩⟩, HT5, HB5⟩
    case round =>
      obtain ⟨j, s, dv, dv', A, q, m, rest, hj, rfl, rfl, hmq, hm, HM, HC, HX, HFL, HS, HT, HB⟩ := hrel
      by_cases hlt : j < l1.length
      · obtain ⟨ad, e, hcell⟩ := Kd.at_int HR1.out j (by omega) (by omega)
        cases e
        have hcell := (HB.out.cell (World.block_lt_of_cell? w _ hcell)).trans hcell
        rw [show rd l1 (j : Int) = l1[j] by simp [rd, hlt], Int.toNat_natCast] at hcell
        have hcx := HX1.out l1[j] (List.getElem_mem hlt)
        have hf := HFL.out
        rw [List.drop_eq_getElem_cons hlt] at hf
        generalize l1[j] = c at hcell hcx hf
        obtain ⟨hc1_, hc2_⟩ := hcx
        have hw := u8_i64 hc1_ hc2_
        obtain ⟨n, hn⟩ : ∃ n, min (c % 7).toNat rest.length = n := ⟨_, rfl⟩
        have hnm : n ≤ m := by have := HM.out; omega
        have hmin : (if (m : Int) < c % 7 then (m : Int) else c % 7) = (n : Int) := by have := HM.out; split <;> omega
        simp only [feedsL, hn] at hf
        obtain ⟨t, ht, hf⟩ := Option.bind_eq_some_iff.1 hf
        have HSA := Aside0.mk ht
        have HF := Aside0.mk hf
        clear hf ht hn
        obtain ⟨X, hX⟩ : ∃ X, rest.take n = X := ⟨_, rfl⟩
        have HLT : Aside0 (∀ ad, A = some ad → 0 < n → ad.block < w.heap.size) := ⟨fun ad e hp => by subst e; exact Kd.C_lt HC.out (by omega) (by decide)⟩
        have HCX : Aside0 (Kd.C (Kd.int .u8) w A X.length X) := ⟨by rw [← hX]; exact Kd.C_take (by rw [HM.out]; exact HC.out) (by have := HM.out; omega)⟩
        have HXL : Aside0 (X.length = n) := ⟨by rw [← hX, List.length_take]; have := HM.out; omega⟩
        have HXX : Aside0 (∀ x ∈ X, 0 ≤ x ∧ x ≤ 255) := ⟨fun x hx => HX.out x (List.mem_of_mem_take (hX ▸ hx))⟩
        have HCD := Aside0.mk (Kd.C_drop (m := n) (c := q) (k := Kd.int .u8) (A := A) (w := w) (xs := rest) (by rw [HM.out]; exact HC.out) (by have := HM.out; omega) (by have := HM.out; omega))
        have hHX := Aside0.mk hX
        rw [hX] at HSA HF
        have HS' := Aside0.mk (rdRun_ok s HS.out X HXX.out)
        clear hX
        cases t with
        | false =>
          have hr := HF.out
          simp at hr
          subst hr
          clear HF
          go_wp2_with (first | (go_at_call 14; refine (feed_two wr w.heap.size g g' s s dv dv' A q n X HT.out HS.out (Kd.C_below HCX.out HB.out) HXL.out (by omega) (by omega) HXX.out HLT.out).mono ?_; rintro e w6 ⟨v6, dv6, rfl, T6, hm6, hb6, hk6⟩; have HT6 := Aside0.mk T6; have HM6 := Aside0.mk hm6; have HB6 := Aside0.mk (HB.out.trans hb6); clear T6 hm6 hb6 hk6) | (go_at_call 15; refine (rfeed_two w6 w.heap.size g g' (rdRun s X).1 s dv6 dv' A q n X HT6.out HS.out (Kd.C_below HCX.out HB6.out) HXL.out (by omega) (by omega) HXX.out HLT.out).mono ?_; rintro e w7 ⟨v7, dv7, rfl, T7, hm7, hb7, hk7⟩; obtain ⟨B6, q6, rfl, hq6, hC6⟩ := Kd.R_reads (hk7 _ _ _ HM6.out); obtain ⟨B7, q7, rfl, hq7, hC7⟩ := Kd.R_reads hm7; have HC6 := Aside0.mk hC6; have HC7 := Aside0.mk hC7; have HT7 := Aside0.mk T7; have HB7 := Aside0.mk (HB6.out.trans hb7); clear T7 hm7 hb7 hk7 hC6 hC7) | (go_at_call 9; refine (serinettelaw21_same.calls k _ _ _ _ _ _ false _ HC6.out hq6 HC7.out hq7 HSA.out).mono ?_; rintro e w8 ⟨rfl, nd8, rfl⟩; have HT8 := Aside0.mk (HT7.out.below (pw_below_drewN (Below.refl _ _) nd8)); have HB8 := Aside0.mk (pw_below_drewN HB7.out nd8)))
          go_ret
          exact ⟨rfl, HB8.out⟩
        | true =>
          go_upto_region 16 with (first | (go_at_call 14; refine (feed_two wr w.heap.size g g' s s dv dv' A q n X HT.out HS.out (Kd.C_below HCX.out HB.out) HXL.out (by omega) (by omega) HXX.out HLT.out).mono ?_; rintro e w6 ⟨v6, dv6, rfl, T6, hm6, hb6, hk6⟩; have HT6 := Aside0.mk T6; have HM6 := Aside0.mk hm6; have HB6 := Aside0.mk (HB.out.trans hb6); clear T6 hm6 hb6 hk6) | (go_at_call 15; refine (rfeed_two w6 w.heap.size g g' (rdRun s X).1 s dv6 dv' A q n X HT6.out HS.out (Kd.C_below HCX.out HB6.out) HXL.out (by omega) (by omega) HXX.out HLT.out).mono ?_; rintro e w7 ⟨v7, dv7, rfl, T7, hm7, hb7, hk7⟩; obtain ⟨B6, q6, rfl, hq6, hC6⟩ := Kd.R_reads (hk7 _ _ _ HM6.out); obtain ⟨B7, q7, rfl, hq7, hC7⟩ := Kd.R_reads hm7; have HC6 := Aside0.mk hC6; have HC7 := Aside0.mk hC7; have HT7 := Aside0.mk T7; have HB7 := Aside0.mk (HB6.out.trans hb7); clear T7 hm7 hb7 hk7 hC6 hC7) | (go_at_call 9; refine (serinettelaw21_same.calls k _ _ _ _ _ _ true _ HC6.out hq6 HC7.out hq7 HSA.out).mono ?_; rintro e w8 ⟨rfl, nd8, rfl⟩; have HT8 := Aside0.mk (HT7.out.below (pw_below_drewN (Below.refl _ _) nd8)); have HB8 := Aside0.mk (pw_below_drewN HB7.out nd8)))
          obtain ⟨A', hA'⟩ : ∃ A', (if q = n then A else Option.map (fun x => x.add n) A) = A' := ⟨_, rfl⟩
          rw [hA']
          have HDL : Aside0 ((rest.drop n).length = m - n) := ⟨by rw [List.length_drop, HM.out]⟩
          have HCD' : Aside0 (Kd.C (Kd.int .u8) w A' (m - n) (rest.drop n)) := ⟨by rw [← HDL.out, ← hA']; simpa [show (Kd.int IntKind.u8).sz = 1 from rfl] using HCD.out⟩
          have HDX : Aside0 (∀ x ∈ rest.drop n, 0 ≤ x ∧ x ≤ 255) := ⟨fun x hx => HX.out x (List.mem_of_mem_drop hx)⟩
          have HS1 : Aside0 ((rdRun s X).1.2.1.length ≤ 1000) := ⟨by rcases HS'.out with ⟨_, h⟩ | ⟨_, _, h | ⟨a, h, _⟩⟩ <;> rw [h] <;> simp⟩
          have HF1 : Aside0 (feedsL k (List.drop (j + 1) l1) (rdRun s X).1 (rest.drop n) = some r) := ⟨by have := HF.out; simpa using this⟩
          clear HF
          clear hA' HCD hcell HB6 HB7 HT6 HT7 HM6 HC6 HC7 hq6 hq7 HSA hHX
          generalize w7.drewN nd8 = W9 at HT8 HB8 ⊢
          by_cases h200 : 200 < c
          · go_wp2_with (first | (go_at_call 16; refine (copy_any W9 w.heap.size g _ dv6 _ _ HT8.out.a HS1.out).mono ?_; rintro e w10 ⟨g2, dv2, rfl, hg2, hr2, hb2⟩; have HR2 := Aside0.mk hr2; have HT10 := Aside0.mk (HT8.out.below hb2); have HB10 := Aside0.mk (HB8.out.trans (hb2.mono HT8.out.a.top)); have HS10 := Aside0.mk hb2.size; clear hg2 hr2 hb2) | (go_at_call 14; (refine (feed_any _ W9.heap.size g2 (rdRun s X).1 dv2 (some ⟨w10.heap.size, 0, none⟩) 5 [145, 1, 2, 176, 1] (HR2.out.below (below_alloc (Below.refl _ _) _)) HS'.out (lit5 w10 _ rfl) (by decide) (by decide) (by intro x hx; simp at hx; omega) ?hf).mono ?_); (case hf => exact far5 HR2.out HS10.out); rintro e w12 ⟨v12, dv12, rfl, hF⟩; have HT12 := Aside0.mk (two_beside (HT10.out.below (below_alloc (Below.refl _ _) _)) (HR2.out.below (below_alloc (Below.refl _ _) _)) (HT8.out.lts) hF.keep); have HB12 := Aside0.mk ((HB10.out.trans ((below_alloc (Below.refl _ _) _).mono HT10.out.a.top)).trans (hF.below.mono HT8.out.a.top)); clear hF))
            go_roundw
            case rel => exact ⟨j + 1, (rdRun s X).1, dv6, dv7, A', q - n, m - n, rest.drop n, by omega, by go_num, rfl, by omega, by omega, HDL, HCD', HDX, HF1, HS', HT12, HB12⟩
            case measure => simp [intOf]; omega

          · have h200b : decide (200 < c) = false := decide_eq_false h200
            clear h200
            go_wp2
            go_roundw
            case rel => exact ⟨j + 1, (rdRun s X).1, dv6, dv7, A', q - n, m - n, rest.drop n, by omega, by go_num, rfl, by omega, by omega, HDL, HCD', HDX, HF1, HS', HT8, HB8⟩
            case measure => simp [intOf]; omega

      · have hf := HFL.out
        rw [List.drop_of_length_le (by omega)] at hf
        simp only [feedsL] at hf
        obtain ⟨t, ht, hf⟩ := Option.bind_eq_some_iff.1 hf
        have HSA := Aside0.mk ht
        have HLT : Aside0 (∀ ad, A = some ad → 0 < m → ad.block < w.heap.size) := ⟨fun ad e hp => by subst e; exact Kd.C_lt HC.out (by omega) (by decide)⟩
        have HCR : Aside0 (Kd.C (Kd.int .u8) w A rest.length rest) := ⟨by rw [HM.out]; exact HC.out⟩
        clear ht
        cases t with
        | false =>
          simp at hf
          subst hf
          go_wp2_with (first | (go_at_call 14; refine (feed_two wr w.heap.size g g' s s dv dv' A q m rest HT.out HS.out (Kd.C_below HCR.out HB.out) HM.out (by omega) (by omega) HX.out HLT.out).mono ?_; rintro e w6 ⟨v6, dv6, rfl, T6, hm6, hb6, hk6⟩; have HT6 := Aside0.mk T6; have HM6 := Aside0.mk hm6; have HB6 := Aside0.mk (HB.out.trans hb6); clear T6 hm6 hb6 hk6) | (go_at_call 15; refine (rfeed_two w6 w.heap.size g g' (rdRun s rest).1 s dv6 dv' A q m rest HT6.out HS.out (Kd.C_below HCR.out HB6.out) HM.out (by omega) (by omega) HX.out HLT.out).mono ?_; rintro e w7 ⟨v7, dv7, rfl, T7, hm7, hb7, hk7⟩; obtain ⟨B6, q6, rfl, hq6, hC6⟩ := Kd.R_reads (hk7 _ _ _ HM6.out); obtain ⟨B7, q7, rfl, hq7, hC7⟩ := Kd.R_reads hm7; have HC6 := Aside0.mk hC6; have HC7 := Aside0.mk hC7; have HT7 := Aside0.mk T7; have HB7 := Aside0.mk (HB6.out.trans hb7); clear T7 hm7 hb7 hk7 hC6 hC7) | (go_at_call 9; refine (serinettelaw21_same.calls k _ _ _ _ _ _ false _ HC6.out hq6 HC7.out hq7 HSA.out).mono ?_; rintro e w8 ⟨rfl, nd8, rfl⟩; have HB8 := Aside0.mk (pw_below_drewN HB7.out nd8)))
          go_ret
          exact ⟨rfl, HB8.out⟩
        | true =>
          have HAW := Aside0.mk (show serinettelaw21_awake.f k = some r from hf)
          clear hf
          go_wp2_with (first | (go_at_call 14; refine (feed_two wr w.heap.size g g' s s dv dv' A q m rest HT.out HS.out (Kd.C_below HCR.out HB.out) HM.out (by omega) (by omega) HX.out HLT.out).mono ?_; rintro e w6 ⟨v6, dv6, rfl, T6, hm6, hb6, hk6⟩; have HT6 := Aside0.mk T6; have HM6 := Aside0.mk hm6; have HB6 := Aside0.mk (HB.out.trans hb6); clear T6 hm6 hb6 hk6) | (go_at_call 15; refine (rfeed_two w6 w.heap.size g g' (rdRun s rest).1 s dv6 dv' A q m rest HT6.out HS.out (Kd.C_below HCR.out HB6.out) HM.out (by omega) (by omega) HX.out HLT.out).mono ?_; rintro e w7 ⟨v7, dv7, rfl, T7, hm7, hb7, hk7⟩; obtain ⟨B6, q6, rfl, hq6, hC6⟩ := Kd.R_reads (hk7 _ _ _ HM6.out); obtain ⟨B7, q7, rfl, hq7, hC7⟩ := Kd.R_reads hm7; have HC6 := Aside0.mk hC6; have HC7 := Aside0.mk hC7; have HT7 := Aside0.mk T7; have HB7 := Aside0.mk (HB6.out.trans hb7); clear T7 hm7 hb7 hk7 hC6 hC7) | (go_at_call 9; refine (serinettelaw21_same.calls k _ _ _ _ _ _ true _ HC6.out hq6 HC7.out hq7 HSA.out).mono ?_; rintro e w8 ⟨rfl, nd8, rfl⟩; have HB8 := Aside0.mk (pw_below_drewN HB7.out nd8)) | (go_at_call 8; refine (serinettelaw21_awake.calls k r _ HAW.out).mono ?_; rintro e w9 ⟨rfl, hb⟩; have HB9 := Aside0.mk (below_step HB8.out hb); clear hb))
          go_ret
          exact ⟨rfl, HB9.out⟩
end

/-- THE ONE PURE STATEMENT of serinettelaw21_ReaderFeeds: yours. -/
def serinettelaw21_ReaderFeeds.Pure : Prop := ∀ (l0 : List Int) (l1 : List Int), l0.length ≤ maxLen → l0.length * 1 ≤ 140737488351232 → (∀ x ∈ l0, (Lit.int .u8 x).wf = true) → l1.length ≤ maxLen → l1.length * 1 ≤ 140737488351232 → (∀ x ∈ l1, (Lit.int .u8 x).wf = true) → ∃ k, serinettelaw21_ReaderFeeds.f k l0 l1 = some true
theorem serinettelaw21_ReaderFeeds.walk (P : serinettelaw21_ReaderFeeds.Pure) (a0 : Option Addr) (len0 cap0 : Nat) (z0 : List Int) (a1 : Option Addr) (len1 cap1 : Nat) (z1 : List Int) (w : World) (w0 : (a0 = none ∧ len0 = 0 ∧ cap0 = 0 ∧ z0 = []) ∨ ∃ x, a0 = some x ∧ len0 ≤ cap0 ∧ cap0 ≤ maxLen ∧ z0.length = cap0 ∧ (∀ i, i < z0.length → w.cell? (x.add i) = some (.int .u8 (z0.getD i 0))) ∧ ∀ n ∈ z0, (Lit.int .u8 n).wf = true) (y0 : len0 * 1 ≤ 140737488351232) (w1 : (a1 = none ∧ len1 = 0 ∧ cap1 = 0 ∧ z1 = []) ∨ ∃ x, a1 = some x ∧ len1 ≤ cap1 ∧ cap1 ≤ maxLen ∧ z1.length = cap1 ∧ (∀ i, i < z1.length → w.cell? (x.add i) = some (.int .u8 (z1.getD i 0))) ∧ ∀ n ∈ z1, (Lit.int .u8 n).wf = true) (y1 : len1 * 1 ≤ 140737488351232) :
    Calls Try.prog 4 #[.slice a0 len0 cap0, .slice a1 len1 cap1] w fun e w' => e = .returned (.bool true) ∧ Below w.heap.size w w' := by
  obtain ⟨l0, rfl, hr0, hm0, hw0, hc0⟩ := ReadsInt.ofRowC w0
  obtain ⟨l1, rfl, hr1, hm1, hw1, hc1⟩ := ReadsInt.ofRowC w1
  obtain ⟨k, h⟩ := P l0 l1 hm0 y0 hw0 hm1 y1 hw1
  refine (serinettelaw21_ReaderFeeds.calls k _ _ l0 _ _ l1 true w (Kd.C_of_reads (d := (0 : Int)) (h1 := fun _ => rfl) hr0) hc0 (Kd.C_of_reads (d := (0 : Int)) (h1 := fun _ => rfl) hr1) hc1 h).mono ?_
  rintro e w' ⟨rfl, hd⟩
  exact ⟨rfl, hd⟩

end Go.Proofs.Ytlaidcoickeihaa.PReaderFeeds
