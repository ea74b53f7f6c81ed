-- turned by a program of ours
import Derived.Test.YtlaidcoickeihaaPMessagesBackx0
import Derived.Test.YtlaidcoickeihaaVMessagesBack
import Derived.Test.YtlaidcoickeihaaPMessagesBackx2
namespace Go.Proofs.Ytlaidcoickeihaa.PMessagesBack
open Go.RowKit Go.Proofs.YtlaidcoickeihaaW.PrintWords Go.Proofs.YtlaidcoickeihaaW.PrintLast Go.Proofs.YtlaidcoickeihaaW.PrintMore
attribute [local go_sem] max2_int min2_int max_two min_two max_three min_three max_four min_four   -- for this text's walks alone
set_option linter.unusedVariables false
set_option linter.unusedSimpArgs false

/-! ### serinetteref21_Valid: function 18 -/
def serinetteref21_Valid.j0 : Nat → ByteArray → Bool → ByteArray → Int → Int → Int → Option (Bool)
  | 0, _, _, _, _, _, _ => none
  | k + 1, x8, x24, x113000, x113001, x113002, x113003 => if x24 = true then ((serinetteref21_within.f x113002 127).bind fun t115 => (if t115 = true then ((serinetteref21_within.f x113003 127).bind fun t116 => (some t116)) else (some false))) else (if x8.toList = ([98, 101, 110, 100] : List UInt8) then (if x113002 = 0 then ((serinetteref21_within.f x113003 16383).bind fun t117 => (some t117)) else (some false)) else (if x8.toList = ([119, 105, 100, 101] : List UInt8) then ((serinetteref21_within.f x113002 31).bind fun t118 => (if t118 = true then ((serinetteref21_within.f x113003 16383).bind fun t119 => (some t119)) else (some false))) else (some false)))
def serinetteref21_Valid.f (k : Nat) (a0_0 : ByteArray) (a0_1 : Int) (a0_2 : Int) (a0_3 : Int) : Option (Bool) := (serinetteref21_within.f a0_1 15).bind fun t113 => (if t113 = true then (if a0_0.toList = ([111, 110] : List UInt8) then ((serinetteref21_within.f a0_2 127).bind fun t114 => (if t114 = true then (if a0_3 ≥ 1 then (some (decide (a0_3 ≤ 127))) else (some false)) else (some false))) else (if a0_0.toList = ([111, 102, 102] : List UInt8) then (serinetteref21_Valid.j0 k a0_0 (a0_0.toList == ([111, 102, 102] : List UInt8)) a0_0 a0_1 a0_2 a0_3) else (serinetteref21_Valid.j0 k a0_0 (a0_0.toList == ([99, 111, 110, 116, 114, 111, 108] : List UInt8)) a0_0 a0_1 a0_2 a0_3))) else (some false))
theorem serinetteref21_Valid.mono_l : ∀ k, (∀ y0 y1 y2 y3 y4 y5, LeO (serinetteref21_Valid.j0 k y0 y1 y2 y3 y4 y5) (serinetteref21_Valid.j0 (k + 1) y0 y1 y2 y3 y4 y5))
  | 0 => fun _ _ _ _ _ _ r h => by simp [serinetteref21_Valid.j0] at h
  | k + 1 => by
    have ih0 := serinetteref21_Valid.mono_l k
    · intro y0 y1 y2 y3 y4 y5
      unfold serinetteref21_Valid.j0
      repeat' first
      | (with_reducible exact ih0 _ _ _ _ _ _)
      | (with_reducible exact LeO.refl _)
      | (with_reducible exact LeO.none _)
      | (with_reducible refine LeO.ite ?_ ?_)
      | (with_reducible refine LeO.bind ?_ (fun _ => ?_))
      | exact ih0 _ _ _ _ _ _
      | exact LeO.none _
      | refine LeO.ite ?_ ?_
      | refine LeO.bind ?_ (fun _ => ?_)
theorem serinetteref21_Valid.mono : ∀ a0 a1 a2 a3 k, LeO (serinetteref21_Valid.f k a0 a1 a2 a3) (serinetteref21_Valid.f (k + 1) a0 a1 a2 a3) := by
  intro a0 a1 a2 a3 k
  have ih0 := serinetteref21_Valid.mono_l k
  unfold serinetteref21_Valid.f
  repeat' first
      | (with_reducible exact ih0 _ _ _ _ _ _)
      | (with_reducible exact LeO.refl _)
      | (with_reducible exact LeO.none _)
      | (with_reducible refine LeO.ite ?_ ?_)
      | (with_reducible refine LeO.bind ?_ (fun _ => ?_))
      | exact ih0 _ _ _ _ _ _
      | exact LeO.none _
      | refine LeO.ite ?_ ?_
      | refine LeO.bind ?_ (fun _ => ?_)
set_option maxHeartbeats 8000000 in
set_option maxRecDepth 100000 in
theorem serinetteref21_Valid.calls (k : Nat) (a0_0 : ByteArray) (a0_1 : Int) (a0_2 : Int) (a0_3 : Int) (r : Bool) (w : World) (h : serinetteref21_Valid.f k a0_0 a0_1 a0_2 a0_3 = some r) :
    Calls Try.prog 18 #[.agg #[.string a0_0, .int .i64 a0_1, .int .i64 a0_2, .int .i64 a0_3]] w fun e w' => e = .returned (.bool r) ∧ Below w.heap.size w w' := by
  have hu37 := Try.underlying37
  have HB := Aside0.mk (Below.refl w.heap.size w)
  have H : ((serinetteref21_within.f a0_1 15).bind fun t113 => (if t113 = true then (if a0_0.toList = ([111, 110] : List UInt8) then ((serinetteref21_within.f a0_2 127).bind fun t114 => (if t114 = true then (if a0_3 ≥ 1 then (some (decide (a0_3 ≤ 127))) else (some false)) else (some false))) else (if a0_0.toList = ([111, 102, 102] : List UInt8) then (serinetteref21_Valid.j0 k a0_0 (a0_0.toList == ([111, 102, 102] : List UInt8)) a0_0 a0_1 a0_2 a0_3) else (serinetteref21_Valid.j0 k a0_0 (a0_0.toList == ([99, 111, 110, 116, 114, 111, 108] : List UInt8)) a0_0 a0_1 a0_2 a0_3))) else (some false))) = some r := h
  clear h
  replace H := Option.bind_eq_some_iff.mp H
  obtain ⟨t113, A20, H⟩ := H
  replace H : (if t113 = true then (if a0_0.toList = ([111, 110] : List UInt8) then ((serinetteref21_within.f a0_2 127).bind fun t114 => (if t114 = true then (if a0_3 ≥ 1 then (some (decide (a0_3 ≤ 127))) else (some false)) else (some false))) else (if a0_0.toList = ([111, 102, 102] : List UInt8) then (serinetteref21_Valid.j0 k a0_0 (a0_0.toList == ([111, 102, 102] : List UInt8)) a0_0 a0_1 a0_2 a0_3) else (serinetteref21_Valid.j0 k a0_0 (a0_0.toList == ([99, 111, 110, 116, 114, 111, 108] : List UInt8)) a0_0 a0_1 a0_2 a0_3))) else (some false)) = some r := H
  have A2 := Aside0.mk A20
  clear A20
  by_cases c3 : t113 = true
  · subst c3
    have H1 : (if a0_0.toList = ([111, 110] : List UInt8) then ((serinetteref21_within.f a0_2 127).bind fun t114 => (if t114 = true then (if a0_3 ≥ 1 then (some (decide (a0_3 ≤ 127))) else (some false)) else (some false))) else (if a0_0.toList = ([111, 102, 102] : List UInt8) then (serinetteref21_Valid.j0 k a0_0 (a0_0.toList == ([111, 102, 102] : List UInt8)) a0_0 a0_1 a0_2 a0_3) else (serinetteref21_Valid.j0 k a0_0 (a0_0.toList == ([99, 111, 110, 116, 114, 111, 108] : List UInt8)) a0_0 a0_1 a0_2 a0_3))) = some r := by rw [if_pos rfl] at H; exact H
    clear H
    have H := H1
    clear H1
    by_cases c4 : a0_0.toList = ([111, 110] : List UInt8)
    · rw [if_pos c4] at H
      have c4b0 : (a0_0.toList == ([111, 110] : List UInt8)) = true := beq_iff_eq.mpr c4
      have c4b1 : (a0_0.toList != ([111, 110] : List UInt8)) = false := bne_eq_false_iff_eq.mpr c4
      clear c4
      replace H := Option.bind_eq_some_iff.mp H
      obtain ⟨t114, A50, H⟩ := H
      replace H : (if t114 = true then (if a0_3 ≥ 1 then (some (decide (a0_3 ≤ 127))) else (some false)) else (some false)) = some r := H
      have A5 := Aside0.mk A50
      clear A50
      by_cases c6 : t114 = true
      · subst c6
        have H1 : (if a0_3 ≥ 1 then (some (decide (a0_3 ≤ 127))) else (some false)) = some r := by rw [if_pos rfl] at H; exact H
        clear H
        have H := H1
        clear H1
        by_cases c7 : a0_3 ≥ 1
        · rw [if_pos c7] at H
          have c7b0 : decide (1 ≤ a0_3) = true := decide_eq_true c7
          clear c7
          obtain rfl := Option.some.inj H
          go_enter Try.func18, Try.ntmps18
          go_wp2_with (first | ((with_reducible refine gate_dst (N := 1) rfl ?_); refine box_event ?hg (N := 1) ?hd (cs := #[.string a0_0, .int .i64 a0_1, .int .i64 a0_2, .int .i64 a0_3]) (t := 37) ?hr ?_; (case hd => rfl); (case hg => rfl); (case hr => first | (go_simp; done) | (go_simp; rfl)); intro gb112 hg w8 hbox hb; have n0_ := Aside0.mk (below_step (by repeat (first | (with_reducible first | exact HB.out | apply below_alloc | apply pw_below_drewN | apply below_drew1) | exact HB.out)) hb); have n1_ := Aside0.mk (hbox); have n2_ := Aside0.mk ((by rw [hg]; exact (below_size (by repeat (first | (with_reducible first | exact HB.out | apply below_alloc | apply pw_below_drewN | apply below_drew1) | exact HB.out))) : w.heap.size ≤ gb112)); have n3_ := Aside0.mk ((by rw [hg]; exact (below_size (by repeat (first | (with_reducible first | exact HB.out | apply below_alloc | apply pw_below_drewN | apply below_drew1) | exact HB.out))) : w.heap.size ≤ gb112)); clear HB; have HB := n0_; have BK112 := n1_; have GW112 := n2_; have GE112 := n3_; clear n0_ n1_ n2_ n3_; clear hb hbox hg; have hcz9_0 : w8.cell? ⟨gb112, 0, none⟩ = some (.string a0_0) := (blk_cell BK112.out 0).trans rfl; have hcz9_1 : w8.cell? ⟨gb112, 1, none⟩ = some (.int .i64 a0_1) := (blk_cell BK112.out 1).trans rfl; have hcz9_2 : w8.cell? ⟨gb112, 2, none⟩ = some (.int .i64 a0_2) := (blk_cell BK112.out 2).trans rfl; have hcz9_3 : w8.cell? ⟨gb112, 3, none⟩ = some (.int .i64 a0_3) := (blk_cell BK112.out 3).trans rfl; have hfz9_0 := blk_frozen BK112.out 0; have hfz9_1 := blk_frozen BK112.out 1; have hfz9_2 := blk_frozen BK112.out 2; have hfz9_3 := blk_frozen BK112.out 3) | ((with_reducible refine gate_callee (f := 30) rfl ?_); refine goesL_ (some 5) rfl rfl Try.func30 (by kernel_rfl) rfl #[.int .i64 a0_1, .int .i64 15] rfl (by (try simp only [List.map_toArray, List.map_cons, List.map_nil]); first | done | rfl | (simp only [List.length_drop, List.length_take]; rfl)) ?_; (with_reducible refine (serinetteref21_within.calls a0_1 15 true _ A2.out).mono ?_); rintro e w' ⟨rfl, ⟨nd, rfl⟩⟩; refine ⟨_, rfl, ?_⟩) | ((with_reducible refine gate_callee (f := 30) rfl ?_); refine goesL_ (some 13) rfl rfl Try.func30 (by kernel_rfl) rfl #[.int .i64 a0_2, .int .i64 127] rfl (by (try simp only [List.map_toArray, List.map_cons, List.map_nil]); first | done | rfl | (simp only [List.length_drop, List.length_take]; rfl)) ?_; (with_reducible refine (serinetteref21_within.calls a0_2 127 true _ A5.out).mono ?_); rintro e w' ⟨rfl, ⟨nd, rfl⟩⟩; refine ⟨_, rfl, ?_⟩))
          go_ret
          exact ⟨by first | rfl | (simp [errW_none, errW_some] <;> rfl) | (simp [*, errW_none, errW_some] <;> rfl), by repeat (first | (with_reducible first | exact HB.out | apply below_alloc | apply pw_below_drewN | apply below_drew1 | refine below_set ?_ GE112.out) | exact HB.out)⟩
        · rw [if_neg c7] at H
          have c7b0 : decide (1 ≤ a0_3) = false := decide_eq_false c7
          clear c7
          obtain rfl := Option.some.inj H
          go_enter Try.func18, Try.ntmps18
          go_wp2_with (first | ((with_reducible refine gate_dst (N := 1) rfl ?_); refine box_event ?hg (N := 1) ?hd (cs := #[.string a0_0, .int .i64 a0_1, .int .i64 a0_2, .int .i64 a0_3]) (t := 37) ?hr ?_; (case hd => rfl); (case hg => rfl); (case hr => first | (go_simp; done) | (go_simp; rfl)); intro gb112 hg w10 hbox hb; have n0_ := Aside0.mk (below_step (by repeat (first | (with_reducible first | exact HB.out | apply below_alloc | apply pw_below_drewN | apply below_drew1) | exact HB.out)) hb); have n1_ := Aside0.mk (hbox); have n2_ := Aside0.mk ((by rw [hg]; exact (below_size (by repeat (first | (with_reducible first | exact HB.out | apply below_alloc | apply pw_below_drewN | apply below_drew1) | exact HB.out))) : w.heap.size ≤ gb112)); have n3_ := Aside0.mk ((by rw [hg]; exact (below_size (by repeat (first | (with_reducible first | exact HB.out | apply below_alloc | apply pw_below_drewN | apply below_drew1) | exact HB.out))) : w.heap.size ≤ gb112)); clear HB; have HB := n0_; have BK112 := n1_; have GW112 := n2_; have GE112 := n3_; clear n0_ n1_ n2_ n3_; clear hb hbox hg; have hcz11_0 : w10.cell? ⟨gb112, 0, none⟩ = some (.string a0_0) := (blk_cell BK112.out 0).trans rfl; have hcz11_1 : w10.cell? ⟨gb112, 1, none⟩ = some (.int .i64 a0_1) := (blk_cell BK112.out 1).trans rfl; have hcz11_2 : w10.cell? ⟨gb112, 2, none⟩ = some (.int .i64 a0_2) := (blk_cell BK112.out 2).trans rfl; have hcz11_3 : w10.cell? ⟨gb112, 3, none⟩ = some (.int .i64 a0_3) := (blk_cell BK112.out 3).trans rfl; have hfz11_0 := blk_frozen BK112.out 0; have hfz11_1 := blk_frozen BK112.out 1; have hfz11_2 := blk_frozen BK112.out 2; have hfz11_3 := blk_frozen BK112.out 3) | ((with_reducible refine gate_callee (f := 30) rfl ?_); refine goesL_ (some 5) rfl rfl Try.func30 (by kernel_rfl) rfl #[.int .i64 a0_1, .int .i64 15] rfl (by (try simp only [List.map_toArray, List.map_cons, List.map_nil]); first | done | rfl | (simp only [List.length_drop, List.length_take]; rfl)) ?_; (with_reducible refine (serinetteref21_within.calls a0_1 15 true _ A2.out).mono ?_); rintro e w' ⟨rfl, ⟨nd, rfl⟩⟩; refine ⟨_, rfl, ?_⟩) | ((with_reducible refine gate_callee (f := 30) rfl ?_); refine goesL_ (some 13) rfl rfl Try.func30 (by kernel_rfl) rfl #[.int .i64 a0_2, .int .i64 127] rfl (by (try simp only [List.map_toArray, List.map_cons, List.map_nil]); first | done | rfl | (simp only [List.length_drop, List.length_take]; rfl)) ?_; (with_reducible refine (serinetteref21_within.calls a0_2 127 true _ A5.out).mono ?_); rintro e w' ⟨rfl, ⟨nd, rfl⟩⟩; refine ⟨_, rfl, ?_⟩))
          go_ret
          exact ⟨by first | rfl | (simp [errW_none, errW_some] <;> rfl) | (simp [*, errW_none, errW_some] <;> rfl), by repeat (first | (with_reducible first | exact HB.out | apply below_alloc | apply pw_below_drewN | apply below_drew1 | refine below_set ?_ GE112.out) | exact HB.out)⟩
      · replace c6 := Bool.eq_false_iff.mpr c6
        subst c6
        have H1 : (some false) = some r := by rw [if_neg (show ¬ (false = true) by decide)] at H; exact H
        clear H
        have H := H1
        clear H1
        obtain rfl := Option.some.inj H
        go_enter Try.func18, Try.ntmps18
        go_wp2_with (first | ((with_reducible refine gate_dst (N := 1) rfl ?_); refine box_event ?hg (N := 1) ?hd (cs := #[.string a0_0, .int .i64 a0_1, .int .i64 a0_2, .int .i64 a0_3]) (t := 37) ?hr ?_; (case hd => rfl); (case hg => rfl); (case hr => first | (go_simp; done) | (go_simp; rfl)); intro gb112 hg w12 hbox hb; have n0_ := Aside0.mk (below_step (by repeat (first | (with_reducible first | exact HB.out | apply below_alloc | apply pw_below_drewN | apply below_drew1) | exact HB.out)) hb); have n1_ := Aside0.mk (hbox); have n2_ := Aside0.mk ((by rw [hg]; exact (below_size (by repeat (first | (with_reducible first | exact HB.out | apply below_alloc | apply pw_below_drewN | apply below_drew1) | exact HB.out))) : w.heap.size ≤ gb112)); have n3_ := Aside0.mk ((by rw [hg]; exact (below_size (by repeat (first | (with_reducible first | exact HB.out | apply below_alloc | apply pw_below_drewN | apply below_drew1) | exact HB.out))) : w.heap.size ≤ gb112)); clear HB; have HB := n0_; have BK112 := n1_; have GW112 := n2_; have GE112 := n3_; clear n0_ n1_ n2_ n3_; clear hb hbox hg; have hcz13_0 : w12.cell? ⟨gb112, 0, none⟩ = some (.string a0_0) := (blk_cell BK112.out 0).trans rfl; have hcz13_1 : w12.cell? ⟨gb112, 1, none⟩ = some (.int .i64 a0_1) := (blk_cell BK112.out 1).trans rfl; have hcz13_2 : w12.cell? ⟨gb112, 2, none⟩ = some (.int .i64 a0_2) := (blk_cell BK112.out 2).trans rfl; have hcz13_3 : w12.cell? ⟨gb112, 3, none⟩ = some (.int .i64 a0_3) := (blk_cell BK112.out 3).trans rfl; have hfz13_0 := blk_frozen BK112.out 0; have hfz13_1 := blk_frozen BK112.out 1; have hfz13_2 := blk_frozen BK112.out 2; have hfz13_3 := blk_frozen BK112.out 3) | ((with_reducible refine gate_callee (f := 30) rfl ?_); refine goesL_ (some 5) rfl rfl Try.func30 (by kernel_rfl) rfl #[.int .i64 a0_1, .int .i64 15] rfl (by (try simp only [List.map_toArray, List.map_cons, List.map_nil]); first | done | rfl | (simp only [List.length_drop, List.length_take]; rfl)) ?_; (with_reducible refine (serinetteref21_within.calls a0_1 15 true _ A2.out).mono ?_); rintro e w' ⟨rfl, ⟨nd, rfl⟩⟩; refine ⟨_, rfl, ?_⟩) | ((with_reducible refine gate_callee (f := 30) rfl ?_); refine goesL_ (some 13) rfl rfl Try.func30 (by kernel_rfl) rfl #[.int .i64 a0_2, .int .i64 127] rfl (by (try simp only [List.map_toArray, List.map_cons, List.map_nil]); first | done | rfl | (simp only [List.length_drop, List.length_take]; rfl)) ?_; (with_reducible refine (serinetteref21_within.calls a0_2 127 false _ A5.out).mono ?_); rintro e w' ⟨rfl, ⟨nd, rfl⟩⟩; refine ⟨_, rfl, ?_⟩))
        go_ret
        exact ⟨by first | rfl | (simp [errW_none, errW_some] <;> rfl) | (simp [*, errW_none, errW_some] <;> rfl), by repeat (first | (with_reducible first | exact HB.out | apply below_alloc | apply pw_below_drewN | apply below_drew1 | refine below_set ?_ GE112.out) | exact HB.out)⟩
    · rw [if_neg c4] at H
      have c4b0 : (a0_0.toList == ([111, 110] : List UInt8)) = false := beq_eq_false_iff_ne.mpr c4
      have c4b1 : (a0_0.toList != ([111, 110] : List UInt8)) = true := bne_iff_ne.mpr c4
      have HC14 := Aside0.mk H
      clear H
      go_enter Try.func18, Try.ntmps18
      go_upto_if 24 with (first | ((with_reducible refine gate_dst (N := 1) rfl ?_); refine box_event ?hg (N := 1) ?hd (cs := #[.string a0_0, .int .i64 a0_1, .int .i64 a0_2, .int .i64 a0_3]) (t := 37) ?hr ?_; (case hd => rfl); (case hg => rfl); (case hr => first | (go_simp; done) | (go_simp; rfl)); intro gb112 hg w15 hbox hb; have n0_ := Aside0.mk (below_step (by repeat (first | (with_reducible first | exact HB.out | apply below_alloc | apply pw_below_drewN | apply below_drew1) | exact HB.out)) hb); have n1_ := Aside0.mk (hbox); have n2_ := Aside0.mk ((by rw [hg]; exact (below_size (by repeat (first | (with_reducible first | exact HB.out | apply below_alloc | apply pw_below_drewN | apply below_drew1) | exact HB.out))) : w.heap.size ≤ gb112)); have n3_ := Aside0.mk ((by rw [hg]; exact (below_size (by repeat (first | (with_reducible first | exact HB.out | apply below_alloc | apply pw_below_drewN | apply below_drew1) | exact HB.out))) : w.heap.size ≤ gb112)); clear HB; have HB := n0_; have BK112 := n1_; have GW112 := n2_; have GE112 := n3_; clear n0_ n1_ n2_ n3_; clear hb hbox hg; have hcz16_0 : w15.cell? ⟨gb112, 0, none⟩ = some (.string a0_0) := (blk_cell BK112.out 0).trans rfl; have hcz16_1 : w15.cell? ⟨gb112, 1, none⟩ = some (.int .i64 a0_1) := (blk_cell BK112.out 1).trans rfl; have hcz16_2 : w15.cell? ⟨gb112, 2, none⟩ = some (.int .i64 a0_2) := (blk_cell BK112.out 2).trans rfl; have hcz16_3 : w15.cell? ⟨gb112, 3, none⟩ = some (.int .i64 a0_3) := (blk_cell BK112.out 3).trans rfl; have hfz16_0 := blk_frozen BK112.out 0; have hfz16_1 := blk_frozen BK112.out 1; have hfz16_2 := blk_frozen BK112.out 2; have hfz16_3 := blk_frozen BK112.out 3) | ((with_reducible refine gate_callee (f := 30) rfl ?_); refine goesL_ (some 5) rfl rfl Try.func30 (by kernel_rfl) rfl #[.int .i64 a0_1, .int .i64 15] rfl (by (try simp only [List.map_toArray, List.map_cons, List.map_nil]); first | done | rfl | (simp only [List.length_drop, List.length_take]; rfl)) ?_; (with_reducible refine (serinetteref21_within.calls a0_1 15 true _ A2.out).mono ?_); rintro e w' ⟨rfl, ⟨nd, rfl⟩⟩; refine ⟨_, rfl, ?_⟩))
      (try simp only [Act.put, List.setIfInBounds_toArray, List.set_cons_zero, List.set_cons_succ])
      go_cut [24] (fun v24 wc => ∃ (kq : Nat) (x24_13 : Bool), v24 = .bool x24_13 ∧ Aside0 (serinetteref21_Valid.j0 kq a0_0 x24_13 a0_0 a0_1 a0_2 a0_3 = some r) ∧ Aside0 (kq ≤ k) ∧ Aside0 (wc.heap[gb112]? = some (.cells #[.string a0_0, .int .i64 a0_1, .int .i64 a0_2, .int .i64 a0_3] 37 (0, 0))) ∧ Aside0 (Below w.heap.size w wc))
      case first =>
        have H := HC14.out
        clear HC14
        by_cases c17 : a0_0.toList = ([111, 102, 102] : List UInt8)
        · rw [if_pos c17] at H
          have c17b0 : (a0_0.toList == ([111, 102, 102] : List UInt8)) = true := beq_iff_eq.mpr c17
          have c17b1 : (a0_0.toList != ([111, 102, 102] : List UInt8)) = false := bne_eq_false_iff_eq.mpr c17
          clear c17
          (first | rw [c17b0] | (simp only [i64_w, i32_w]; rw [c17b0]) | skip)
          have H' := Aside0.mk H
          clear H
          go_wp2
          go_meet
          case rel => exact ⟨_, ((a0_0.toList == ([111, 102, 102] : List UInt8))), (by first | rfl | (simp; done) | (simp [*]; done)), H', ⟨by first | omega | exact Nat.le_refl _⟩, ⟨by (with_reducible repeat (first | refine blk_drewN ?_ _ | refine blk_drew ?_ | refine blk_alloc ?_ _)); exact BK112.out⟩, ⟨by repeat (first | (with_reducible first | exact HB.out | apply below_alloc | apply pw_below_drewN | apply below_drew1 | refine below_set ?_ GE112.out) | exact HB.out)⟩⟩
        · rw [if_neg c17] at H
          have c17b0 : (a0_0.toList == ([111, 102, 102] : List UInt8)) = false := beq_eq_false_iff_ne.mpr c17
          have c17b1 : (a0_0.toList != ([111, 102, 102] : List UInt8)) = true := bne_iff_ne.mpr c17
          (first | rw [c17b0] | (simp only [i64_w, i32_w]; rw [c17b0]) | skip)
          have H' := Aside0.mk H
          clear H
          go_wp2
          go_meet
          case rel => exact ⟨_, ((a0_0.toList == ([99, 111, 110, 116, 114, 111, 108] : List UInt8))), (by first | rfl | (simp; done) | (simp [*]; done)), H', ⟨by first | omega | exact Nat.le_refl _⟩, ⟨by (with_reducible repeat (first | refine blk_drewN ?_ _ | refine blk_drew ?_ | refine blk_alloc ?_ _)); exact BK112.out⟩, ⟨by repeat (first | (with_reducible first | exact HB.out | apply below_alloc | apply pw_below_drewN | apply below_drew1 | refine below_set ?_ GE112.out) | exact HB.out)⟩⟩
      case rest =>
        clear HC14
        try clear c1
        try clear p2
        try clear c3
        try clear c4
        try clear c4b0
        try clear c4b1
        try clear c6
        try clear c7
        try clear c7b0
        try clear c17
        try clear c17b0
        try clear c17b1
        try clear hcz11_0
        try clear hcz11_1
        try clear hcz11_2
        try clear hcz11_3
        try clear hcz13_0
        try clear hcz13_1
        try clear hcz13_2
        try clear hcz13_3
        try clear hcz16_0
        try clear hcz16_1
        try clear hcz16_2
        try clear hcz16_3
        try clear hcz9_0
        try clear hcz9_1
        try clear hcz9_2
        try clear hcz9_3
        try clear hfz11_0
        try clear hfz11_1
        try clear hfz11_2
        try clear hfz11_3
        try clear hfz13_0
        try clear hfz13_1
        try clear hfz13_2
        try clear hfz13_3
        try clear hfz16_0
        try clear hfz16_1
        try clear hfz16_2
        try clear hfz16_3
        try clear hfz9_0
        try clear hfz9_1
        try clear hfz9_2
        try clear hfz9_3
        obtain ⟨kq, x24_13, rfl, HA, HJ13, BK112, HB⟩ := hcut
        cases kq with
        | zero => exact absurd HA.out (by simp [serinetteref21_Valid.j0])
        | succ kj13 =>
          have H := HA.out
          clear HA
          simp only [serinetteref21_Valid.j0] at H
          by_cases c18 : x24_13 = true
          · subst c18
            have H1 : ((serinetteref21_within.f a0_2 127).bind fun t115 => (if t115 = true then ((serinetteref21_within.f a0_3 127).bind fun t116 => (some t116)) else (some false))) = some r := by rw [if_pos rfl] at H; exact H
            clear H
            have H := H1
            clear H1
            replace H := Option.bind_eq_some_iff.mp H
            obtain ⟨t115, A190, H⟩ := H
            replace H : (if t115 = true then ((serinetteref21_within.f a0_3 127).bind fun t116 => (some t116)) else (some false)) = some r := H
            have A19 := Aside0.mk A190
            clear A190
            by_cases c20 : t115 = true
            · subst c20
              have H1 : ((serinetteref21_within.f a0_3 127).bind fun t116 => (some t116)) = some r := by rw [if_pos rfl] at H; exact H
              clear H
              have H := H1
              clear H1
              replace H := Option.bind_eq_some_iff.mp H
              obtain ⟨t116, A210, H⟩ := H
              replace H : (some t116) = some r := H
              have A21 := Aside0.mk A210
              clear A210
              obtain rfl := Option.some.inj H
              have hcz22_0 : wc.cell? ⟨gb112, 0, none⟩ = some (.string a0_0) := (blk_cell BK112.out 0).trans rfl
              have hcz22_1 : wc.cell? ⟨gb112, 1, none⟩ = some (.int .i64 a0_1) := (blk_cell BK112.out 1).trans rfl
              have hcz22_2 : wc.cell? ⟨gb112, 2, none⟩ = some (.int .i64 a0_2) := (blk_cell BK112.out 2).trans rfl
              have hcz22_3 : wc.cell? ⟨gb112, 3, none⟩ = some (.int .i64 a0_3) := (blk_cell BK112.out 3).trans rfl
              have hfz22_0 := blk_frozen BK112.out 0
              have hfz22_1 := blk_frozen BK112.out 1
              have hfz22_2 := blk_frozen BK112.out 2
              have hfz22_3 := blk_frozen BK112.out 3
              go_wp2_with (first | ((with_reducible refine gate_callee (f := 30) rfl ?_); refine goesL_ (some 29) rfl rfl Try.func30 (by kernel_rfl) rfl #[.int .i64 a0_2, .int .i64 127] rfl (by (try simp only [List.map_toArray, List.map_cons, List.map_nil]); first | done | rfl | (simp only [List.length_drop, List.length_take]; rfl)) ?_; (with_reducible refine (serinetteref21_within.calls a0_2 127 true _ A19.out).mono ?_); rintro e w' ⟨rfl, ⟨nd, rfl⟩⟩; refine ⟨_, rfl, ?_⟩) | (go_at_call 30; (with_reducible refine (serinetteref21_within.calls a0_3 127 t116 _ A21.out).mono ?_); rintro e w' ⟨rfl, ⟨nd, rfl⟩⟩))
              go_ret
              exact ⟨by first | rfl | (simp [errW_none, errW_some] <;> rfl) | (simp [*, errW_none, errW_some] <;> rfl), by repeat (first | (with_reducible first | exact HB.out | apply below_alloc | apply pw_below_drewN | apply below_drew1 | refine below_set ?_ GE112.out) | exact HB.out)⟩
            · replace c20 := Bool.eq_false_iff.mpr c20
              subst c20
              have H1 : (some false) = some r := by rw [if_neg (show ¬ (false = true) by decide)] at H; exact H
              clear H
              have H := H1
              clear H1
              obtain rfl := Option.some.inj H
              have hcz23_0 : wc.cell? ⟨gb112, 0, none⟩ = some (.string a0_0) := (blk_cell BK112.out 0).trans rfl
              have hcz23_1 : wc.cell? ⟨gb112, 1, none⟩ = some (.int .i64 a0_1) := (blk_cell BK112.out 1).trans rfl
              have hcz23_2 : wc.cell? ⟨gb112, 2, none⟩ = some (.int .i64 a0_2) := (blk_cell BK112.out 2).trans rfl
              have hcz23_3 : wc.cell? ⟨gb112, 3, none⟩ = some (.int .i64 a0_3) := (blk_cell BK112.out 3).trans rfl
              have hfz23_0 := blk_frozen BK112.out 0
              have hfz23_1 := blk_frozen BK112.out 1
              have hfz23_2 := blk_frozen BK112.out 2
              have hfz23_3 := blk_frozen BK112.out 3
              go_wp2_with (first | ((with_reducible refine gate_callee (f := 30) rfl ?_); refine goesL_ (some 29) rfl rfl Try.func30 (by kernel_rfl) rfl #[.int .i64 a0_2, .int .i64 127] rfl (by (try simp only [List.map_toArray, List.map_cons, List.map_nil]); first | done | rfl | (simp only [List.length_drop, List.length_take]; rfl)) ?_; (with_reducible refine (serinetteref21_within.calls a0_2 127 false _ A19.out).mono ?_); rintro e w' ⟨rfl, ⟨nd, rfl⟩⟩; refine ⟨_, rfl, ?_⟩))
              go_ret
              exact ⟨by first | rfl | (simp [errW_none, errW_some] <;> rfl) | (simp [*, errW_none, errW_some] <;> rfl), by repeat (first | (with_reducible first | exact HB.out | apply below_alloc | apply pw_below_drewN | apply below_drew1 | refine below_set ?_ GE112.out) | exact HB.out)⟩
          · replace c18 := Bool.eq_false_iff.mpr c18
            subst c18
            have H1 : (if a0_0.toList = ([98, 101, 110, 100] : List UInt8) then (if a0_2 = 0 then ((serinetteref21_within.f a0_3 16383).bind fun t117 => (some t117)) else (some false)) else (if a0_0.toList = ([119, 105, 100, 101] : List UInt8) then ((serinetteref21_within.f a0_2 31).bind fun t118 => (if t118 = true then ((serinetteref21_within.f a0_3 16383).bind fun t119 => (some t119)) else (some false))) else (some false))) = some r := by rw [if_neg (show ¬ (false = true) by decide)] at H; exact H
            clear H
            have H := H1
            clear H1
            by_cases c24 : a0_0.toList = ([98, 101, 110, 100] : List UInt8)
            · rw [if_pos c24] at H
              have c24b0 : (a0_0.toList == ([98, 101, 110, 100] : List UInt8)) = true := beq_iff_eq.mpr c24
              have c24b1 : (a0_0.toList != ([98, 101, 110, 100] : List UInt8)) = false := bne_eq_false_iff_eq.mpr c24
              clear c24
              by_cases c25 : a0_2 = 0
              · rw [if_pos c25] at H
                have c25b0 : (a0_2 == 0) = true := beq_iff_eq.mpr c25
                have c25b1 : (a0_2 != 0) = false := bne_eq_false_iff_eq.mpr c25
                clear c25
                replace H := Option.bind_eq_some_iff.mp H
                obtain ⟨t117, A260, H⟩ := H
                replace H : (some t117) = some r := H
                have A26 := Aside0.mk A260
                clear A260
                obtain rfl := Option.some.inj H
                have hcz27_0 : wc.cell? ⟨gb112, 0, none⟩ = some (.string a0_0) := (blk_cell BK112.out 0).trans rfl
                have hcz27_1 : wc.cell? ⟨gb112, 1, none⟩ = some (.int .i64 a0_1) := (blk_cell BK112.out 1).trans rfl
                have hcz27_2 : wc.cell? ⟨gb112, 2, none⟩ = some (.int .i64 a0_2) := (blk_cell BK112.out 2).trans rfl
                have hcz27_3 : wc.cell? ⟨gb112, 3, none⟩ = some (.int .i64 a0_3) := (blk_cell BK112.out 3).trans rfl
                have hfz27_0 := blk_frozen BK112.out 0
                have hfz27_1 := blk_frozen BK112.out 1
                have hfz27_2 := blk_frozen BK112.out 2
                have hfz27_3 := blk_frozen BK112.out 3
                go_wp2_with (first | (go_at_call 30; (with_reducible refine (serinetteref21_within.calls a0_3 16383 t117 _ A26.out).mono ?_); rintro e w' ⟨rfl, ⟨nd, rfl⟩⟩))
                go_ret
                exact ⟨by first | rfl | (simp [errW_none, errW_some] <;> rfl) | (simp [*, errW_none, errW_some] <;> rfl), by repeat (first | (with_reducible first | exact HB.out | apply below_alloc | apply pw_below_drewN | apply below_drew1 | refine below_set ?_ GE112.out) | exact HB.out)⟩
              · rw [if_neg c25] at H
                have c25b0 : (a0_2 == 0) = false := beq_eq_false_iff_ne.mpr c25
                have c25b1 : (a0_2 != 0) = true := bne_iff_ne.mpr c25
                obtain rfl := Option.some.inj H
                have hcz28_0 : wc.cell? ⟨gb112, 0, none⟩ = some (.string a0_0) := (blk_cell BK112.out 0).trans rfl
                have hcz28_1 : wc.cell? ⟨gb112, 1, none⟩ = some (.int .i64 a0_1) := (blk_cell BK112.out 1).trans rfl
                have hcz28_2 : wc.cell? ⟨gb112, 2, none⟩ = some (.int .i64 a0_2) := (blk_cell BK112.out 2).trans rfl
                have hcz28_3 : wc.cell? ⟨gb112, 3, none⟩ = some (.int .i64 a0_3) := (blk_cell BK112.out 3).trans rfl
                have hfz28_0 := blk_frozen BK112.out 0
                have hfz28_1 := blk_frozen BK112.out 1
                have hfz28_2 := blk_frozen BK112.out 2
                have hfz28_3 := blk_frozen BK112.out 3
                go_wp2
                go_ret
                exact ⟨by first | rfl | (simp [errW_none, errW_some] <;> rfl) | (simp [*, errW_none, errW_some] <;> rfl), by repeat (first | (with_reducible first | exact HB.out | apply below_alloc | apply pw_below_drewN | apply below_drew1 | refine below_set ?_ GE112.out) | exact HB.out)⟩
            · rw [if_neg c24] at H
              have c24b0 : (a0_0.toList == ([98, 101, 110, 100] : List UInt8)) = false := beq_eq_false_iff_ne.mpr c24
              have c24b1 : (a0_0.toList != ([98, 101, 110, 100] : List UInt8)) = true := bne_iff_ne.mpr c24
              by_cases c29 : a0_0.toList = ([119, 105, 100, 101] : List UInt8)
              · rw [if_pos c29] at H
                have c29b0 : (a0_0.toList == ([119, 105, 100, 101] : List UInt8)) = true := beq_iff_eq.mpr c29
                have c29b1 : (a0_0.toList != ([119, 105, 100, 101] : List UInt8)) = false := bne_eq_false_iff_eq.mpr c29
                clear c29
                replace H := Option.bind_eq_some_iff.mp H
                obtain ⟨t118, A300, H⟩ := H
                replace H : (if t118 = true then ((serinetteref21_within.f a0_3 16383).bind fun t119 => (some t119)) else (some false)) = some r := H
                have A30 := Aside0.mk A300
                clear A300
                by_cases c31 : t118 = true
                · subst c31
                  have H1 : ((serinetteref21_within.f a0_3 16383).bind fun t119 => (some t119)) = some r := by rw [if_pos rfl] at H; exact H
                  clear H
                  have H := H1
                  clear H1
                  replace H := Option.bind_eq_some_iff.mp H
                  obtain ⟨t119, A320, H⟩ := H
                  replace H : (some t119) = some r := H
                  have A32 := Aside0.mk A320
                  clear A320
                  obtain rfl := Option.some.inj H
                  have hcz33_0 : wc.cell? ⟨gb112, 0, none⟩ = some (.string a0_0) := (blk_cell BK112.out 0).trans rfl
                  have hcz33_1 : wc.cell? ⟨gb112, 1, none⟩ = some (.int .i64 a0_1) := (blk_cell BK112.out 1).trans rfl
                  have hcz33_2 : wc.cell? ⟨gb112, 2, none⟩ = some (.int .i64 a0_2) := (blk_cell BK112.out 2).trans rfl
                  have hcz33_3 : wc.cell? ⟨gb112, 3, none⟩ = some (.int .i64 a0_3) := (blk_cell BK112.out 3).trans rfl
                  have hfz33_0 := blk_frozen BK112.out 0
                  have hfz33_1 := blk_frozen BK112.out 1
                  have hfz33_2 := blk_frozen BK112.out 2
                  have hfz33_3 := blk_frozen BK112.out 3
                  go_wp2_with (first | ((with_reducible refine gate_callee (f := 30) rfl ?_); refine goesL_ (some 49) rfl rfl Try.func30 (by kernel_rfl) rfl #[.int .i64 a0_2, .int .i64 31] rfl (by (try simp only [List.map_toArray, List.map_cons, List.map_nil]); first | done | rfl | (simp only [List.length_drop, List.length_take]; rfl)) ?_; (with_reducible refine (serinetteref21_within.calls a0_2 31 true _ A30.out).mono ?_); rintro e w' ⟨rfl, ⟨nd, rfl⟩⟩; refine ⟨_, rfl, ?_⟩) | (go_at_call 30; (with_reducible refine (serinetteref21_within.calls a0_3 16383 t119 _ A32.out).mono ?_); rintro e w' ⟨rfl, ⟨nd, rfl⟩⟩))
                  go_ret
                  exact ⟨by first | rfl | (simp [errW_none, errW_some] <;> rfl) | (simp [*, errW_none, errW_some] <;> rfl), by repeat (first | (with_reducible first | exact HB.out | apply below_alloc | apply pw_below_drewN | apply below_drew1 | refine below_set ?_ GE112.out) | exact HB.out)⟩
                · replace c31 := Bool.eq_false_iff.mpr c31
                  subst c31
                  have H1 : (some false) = some r := by rw [if_neg (show ¬ (false = true) by decide)] at H; exact H
                  clear H
                  have H := H1
                  clear H1
                  obtain rfl := Option.some.inj H
                  have hcz34_0 : wc.cell? ⟨gb112, 0, none⟩ = some (.string a0_0) := (blk_cell BK112.out 0).trans rfl
                  have hcz34_1 : wc.cell? ⟨gb112, 1, none⟩ = some (.int .i64 a0_1) := (blk_cell BK112.out 1).trans rfl
                  have hcz34_2 : wc.cell? ⟨gb112, 2, none⟩ = some (.int .i64 a0_2) := (blk_cell BK112.out 2).trans rfl
                  have hcz34_3 : wc.cell? ⟨gb112, 3, none⟩ = some (.int .i64 a0_3) := (blk_cell BK112.out 3).trans rfl
                  have hfz34_0 := blk_frozen BK112.out 0
                  have hfz34_1 := blk_frozen BK112.out 1
                  have hfz34_2 := blk_frozen BK112.out 2
                  have hfz34_3 := blk_frozen BK112.out 3
                  go_wp2_with (first | ((with_reducible refine gate_callee (f := 30) rfl ?_); refine goesL_ (some 49) rfl rfl Try.func30 (by kernel_rfl) rfl #[.int .i64 a0_2, .int .i64 31] rfl (by (try simp only [List.map_toArray, List.map_cons, List.map_nil]); first | done | rfl | (simp only [List.length_drop, List.length_take]; rfl)) ?_; (with_reducible refine (serinetteref21_within.calls a0_2 31 false _ A30.out).mono ?_); rintro e w' ⟨rfl, ⟨nd, rfl⟩⟩; refine ⟨_, rfl, ?_⟩))
                  go_ret
                  exact ⟨by first | rfl | (simp [errW_none, errW_some] <;> rfl) | (simp [*, errW_none, errW_some] <;> rfl), by repeat (first | (with_reducible first | exact HB.out | apply below_alloc | apply pw_below_drewN | apply below_drew1 | refine below_set ?_ GE112.out) | exact HB.out)⟩
              · rw [if_neg c29] at H
                have c29b0 : (a0_0.toList == ([119, 105, 100, 101] : List UInt8)) = false := beq_eq_false_iff_ne.mpr c29
                have c29b1 : (a0_0.toList != ([119, 105, 100, 101] : List UInt8)) = true := bne_iff_ne.mpr c29
                obtain rfl := Option.some.inj H
                go_wp2
                go_ret
                exact ⟨by first | rfl | (simp [errW_none, errW_some] <;> rfl) | (simp [*, errW_none, errW_some] <;> rfl), by repeat (first | (with_reducible first | exact HB.out | apply below_alloc | apply pw_below_drewN | apply below_drew1 | refine below_set ?_ GE112.out) | exact HB.out)⟩
  · replace c3 := Bool.eq_false_iff.mpr c3
    subst c3
    have H1 : (some false) = some r := by rw [if_neg (show ¬ (false = true) by decide)] at H; exact H
    clear H
    have H := H1
    clear H1
    obtain rfl := Option.some.inj H
    go_enter Try.func18, Try.ntmps18
    go_wp2_with (first | ((with_reducible refine gate_dst (N := 1) rfl ?_); refine box_event ?hg (N := 1) ?hd (cs := #[.string a0_0, .int .i64 a0_1, .int .i64 a0_2, .int .i64 a0_3]) (t := 37) ?hr ?_; (case hd => rfl); (case hg => rfl); (case hr => first | (go_simp; done) | (go_simp; rfl)); intro gb112 hg w35 hbox hb; have n0_ := Aside0.mk (below_step (by repeat (first | (with_reducible first | exact HB.out | apply below_alloc | apply pw_below_drewN | apply below_drew1) | exact HB.out)) hb); have n1_ := Aside0.mk (hbox); have n2_ := Aside0.mk ((by rw [hg]; exact (below_size (by repeat (first | (with_reducible first | exact HB.out | apply below_alloc | apply pw_below_drewN | apply below_drew1) | exact HB.out))) : w.heap.size ≤ gb112)); have n3_ := Aside0.mk ((by rw [hg]; exact (below_size (by repeat (first | (with_reducible first | exact HB.out | apply below_alloc | apply pw_below_drewN | apply below_drew1) | exact HB.out))) : w.heap.size ≤ gb112)); clear HB; have HB := n0_; have BK112 := n1_; have GW112 := n2_; have GE112 := n3_; clear n0_ n1_ n2_ n3_; clear hb hbox hg; have hcz36_0 : w35.cell? ⟨gb112, 0, none⟩ = some (.string a0_0) := (blk_cell BK112.out 0).trans rfl; have hcz36_1 : w35.cell? ⟨gb112, 1, none⟩ = some (.int .i64 a0_1) := (blk_cell BK112.out 1).trans rfl; have hcz36_2 : w35.cell? ⟨gb112, 2, none⟩ = some (.int .i64 a0_2) := (blk_cell BK112.out 2).trans rfl; have hcz36_3 : w35.cell? ⟨gb112, 3, none⟩ = some (.int .i64 a0_3) := (blk_cell BK112.out 3).trans rfl; have hfz36_0 := blk_frozen BK112.out 0; have hfz36_1 := blk_frozen BK112.out 1; have hfz36_2 := blk_frozen BK112.out 2; have hfz36_3 := blk_frozen BK112.out 3) | ((with_reducible refine gate_callee (f := 30) rfl ?_); refine goesL_ (some 5) rfl rfl Try.func30 (by kernel_rfl) rfl #[.int .i64 a0_1, .int .i64 15] rfl (by (try simp only [List.map_toArray, List.map_cons, List.map_nil]); first | done | rfl | (simp only [List.length_drop, List.length_take]; rfl)) ?_; (with_reducible refine (serinetteref21_within.calls a0_1 15 false _ A2.out).mono ?_); rintro e w' ⟨rfl, ⟨nd, rfl⟩⟩; refine ⟨_, rfl, ?_⟩))
    go_ret
    exact ⟨by first | rfl | (simp [errW_none, errW_some] <;> rfl) | (simp [*, errW_none, errW_some] <;> rfl), by repeat (first | (with_reducible first | exact HB.out | apply below_alloc | apply pw_below_drewN | apply below_drew1 | refine below_set ?_ GE112.out) | exact HB.out)⟩

-- NOT PRINTED: function 31 (message_writer_put)

/-! ### message_Write: function 19 -/
section
attribute [local go_sem] cell_mk frozen_mk
/-- What a message writes: a status and two bytes, once or twice. -/
def tripsOf (m : S37) : List (Int × Int × Int) :=
  if m.f0.toList = ([111, 110] : List UInt8) then [(144 + m.f1, m.f2, m.f3)]
  else if m.f0.toList = ([111, 102, 102] : List UInt8) then [(128 + m.f1, m.f2, m.f3)]
  else if m.f0.toList = ([99, 111, 110, 116, 114, 111, 108] : List UInt8) then [(176 + m.f1, m.f2, m.f3)]
  else if m.f0.toList = ([98, 101, 110, 100] : List UInt8) then [(224 + m.f1, m.f3 % 128, m.f3 / 128)]
  else if m.f0.toList = ([119, 105, 100, 101] : List UInt8) then [(176 + m.f1, m.f2, m.f3 / 128), (176 + m.f1, m.f2 + 32, m.f3 % 128)]
  else []
def putT (run : Bool) (s : Int × List Int) (t : Int × Int × Int) : Int × List Int := (t.1, s.2 ++ putB run s.1 t.1 t.2.1 t.2.2)
def putM (run : Bool) (s : Int × List Int) (m : S37) : Int × List Int := (tripsOf m).foldl (putT run) s
/-- A message within its bounds. -/
def OkM (m : S37) : Prop := 0 ≤ m.f1 ∧ m.f1 ≤ 15 ∧ 0 ≤ m.f2 ∧ m.f2 ≤ 127 ∧ 0 ≤ m.f3 ∧ m.f3 ≤ 16383 ∧ (m.f3 ≤ 127 ∨ (m.f0.toList ≠ ([111, 110] : List UInt8) ∧ m.f0.toList ≠ ([111, 102, 102] : List UInt8) ∧ m.f0.toList ≠ ([99, 111, 110, 116, 114, 111, 108] : List UInt8)))
instance (m : S37) : Decidable (OkM m) := by unfold OkM; infer_instance
theorem putB_len (run : Bool) (last s a b : Int) : (putB run last s a b).length ≤ 3 := by unfold putB; split <;> simp
/-- What is left to write. -/
def writeL (k : Nat) (run : Bool) : List S37 → Int → List Int → Option (List Int × Int)
  | [], _, out => some (out, 0)
  | m :: l, last, out => (message_Valid.f k m.f0 m.f1 m.f2 m.f3).bind fun t => if t = true then (if OkM m ∧ out.length ≤ 90000 then writeL k run l (putM run (last, out) m).1 (putM run (last, out) m).2 else none) else some ([], 2)
theorem writeL_mono (k : Nat) (run : Bool) (l : List S37) : ∀ last out, LeO (writeL k run l last out) (writeL (k + 1) run l last out) := by
  induction l with
  | nil => intro last out; exact LeO.refl _
  | cons m l ih =>
    intro last out
    unfold writeL
    refine LeO.bind (message_Valid.mono _ _ _ _ _) (fun t => LeO.ite (LeO.ite (ih _ _) (LeO.none _)) (LeO.refl _))
def message_Write.f (k : Nat) (l : List S37) (run : Bool) : Option (List Int × Int) := writeL k run l 0 []
theorem message_Write.mono : ∀ a0 a1 k, LeO (message_Write.f k a0 a1) (message_Write.f (k + 1) a0 a1) := fun a0 a1 k => writeL_mono k a1 a0 _ _
def HeadW (w : World) (g k : Nat) (run : Bool) (l : List S37) (r : List Int × Int) (v14 : Value) (W : World) : Prop :=
  ∃ (i : Nat) (bv : Value) (last : Int) (out : List Int), i ≤ l.length ∧ v14 = .int .i64 i ∧ Aside0 (writeL k run (l.drop i) last out = some r) ∧ Aside0 (Wt W w.heap.size g bv out run last) ∧ Aside0 (Below w.heap.size w W)
theorem Wt.new (w : World) (run : Bool) : Wt (w.alloc (.cells #[.slice none 0 0, .bool run, .int .i64 0] 69)) w.heap.size w.heap.size (.slice none 0 0) [] run 0 :=
  ⟨blk_new w _, Kd.R_nil _ _ _ _ _, Nat.le_refl _, (below_alloc (Below.refl _ _) _ : Below w.heap.size w _).size⟩
theorem Wt.box {w : World} {B g gb i : Nat} {bv u : Value} {xs : List Int} {run : Bool} {last : Int} {cs : Array Value} (h : Wt w B g bv xs run last) (hb : w.heap[gb]? = some (.cells cs 37 (0, 0))) : Wt (w.setCell ⟨gb, i, none⟩ u) B g bv xs run last ∧ (w.setCell ⟨gb, i, none⟩ u).heap[gb]? = some (.cells (cs.setIfInBounds i u) 37 (0, 0)) :=
  ⟨⟨blk_far h.cells (blk_ne h.cells hb (by decide)) _, Kd.R_set h.own hb (by decide) _ _, h.base, by rw [World.setCell]; simpa using h.top⟩, blk_set hb _ _⟩
theorem drop_at (l : List S37) (i : Nat) (h : i < l.length) : l.drop i = rd_T37 l (i : Int) :: l.drop (i + 1) := by
  rw [List.drop_eq_getElem_cons h]; unfold rd_T37; simp [h]
set_option maxHeartbeats 8000000 in
set_option maxRecDepth 100000 in
theorem message_Write.calls (k : Nat) (A0 : Option Addr) (c0 : Nat) (l0 : List (S37)) (a1 : Bool) (r1 : List Int) (r2 : Int) (w : World) (hr0 : Kd.C k37 w A0 l0.length l0) (hc0 : l0.length ≤ c0) (h : message_Write.f k l0 a1 = some (r1, r2)) :
    Calls Try.prog 19 #[.slice A0 l0.length c0, .bool a1] w fun e w' => ∃ v0_ : Value, e = .returned (.tuple #[v0_, .int .i64 r2]) ∧ Kd.R (Kd.int .u8) 5 w' w.heap.size (fun _ => True) v0_ r1 ∧ Below w.heap.size w w' := by
  have hlen : l0.length ≤ 9223372036854775807 := hr0.2.1
  have HR := Aside0.mk hr0
  have HH := Aside0.mk (show writeL k a1 l0 0 [] = some (r1, r2) from h)
  clear hr0 h
  go_enter Try.func19, Try.ntmps19
  go_wp2
  have HW := Aside0.mk (Wt.new w a1)
  go_loopw [14] (fun v14 W => HeadW w w.heap.size k a1 l0 (r1, r2) v14 W) (fun v14 _ => l0.length - (intOf v14).toNat)
  case atStart => exact ⟨0, _, 0, [], Nat.zero_le _, rfl, ⟨HH.out⟩, ⟨HW.out⟩, ⟨below_alloc (Below.refl _ _) _⟩⟩
  case round =>
    obtain ⟨i, bv, last, out, hi, rfl, HX, HWt, HB⟩ := hrel
    by_cases hlt : i < l0.length
    · obtain ⟨ad, e, hx0, hx1, hx2, hx3⟩ := at_T37 HR.out (i : Int) (by omega) (by omega)
      cases e
      rw [Int.toNat_natCast] at hx0 hx1 hx2 hx3
      have hx0 := (HB.out.cell (World.block_lt_of_cell? w _ hx0)).trans hx0
      have hx1 := (HB.out.cell (World.block_lt_of_cell? w _ hx1)).trans hx1
      have hx2 := (HB.out.cell (World.block_lt_of_cell? w _ hx2)).trans hx2
      have hx3 := (HB.out.cell (World.block_lt_of_cell? w _ hx3)).trans hx3
      obtain ⟨m, hm⟩ : ∃ m, rd_T37 l0 (i : Int) = m := ⟨_, rfl⟩
      rw [hm] at hx0 hx1 hx2 hx3
      have HM := Aside0.mk hm
      clear hm
      obtain ⟨m0, m1, m2, m3⟩ := m
      simp only [] at hx0 hx1 hx2 hx3
      go_upto_region 5 with ((with_reducible refine gate_dst (N := 8) rfl ?_); refine box_event ?hg (N := 8) ?hd (cs := #[.string (⟨#[]⟩ : ByteArray), .int .i64 0, .int .i64 0, .int .i64 0]) (t := 37) ?hr ?_; (case hd => rfl); (case hg => rfl); (case hr => first | (go_simp; done) | (go_simp; rfl)); intro gb hg w8 hbox hb; have HB8 := Aside0.mk (below_step HB.out hb); have HW8 := Aside0.mk (HWt.out.below hb); have HBX := Aside0.mk hbox; have HG := Aside0.mk (hg ▸ HWt.out.top : w.heap.size ≤ gb); clear hb hg; have z0 := (blk_cell hbox 0); have z1 := (blk_cell hbox 1); have z2 := (blk_cell hbox 2); have z3 := (blk_cell hbox 3); have y0 := blk_frozen hbox 0; have y1 := blk_frozen hbox 1; have y2 := blk_frozen hbox 2; have y3 := blk_frozen hbox 3; simp at z0 z1 z2 z3; clear hbox)
      obtain ⟨W3, hW3⟩ : ∃ W3, (((w8.setCell ⟨gb, 0, none⟩ (.string m0)).setCell ⟨gb, 1, none⟩ (.int .i64 m1)).setCell ⟨gb, 2, none⟩ (.int .i64 m2)).setCell ⟨gb, 3, none⟩ (.int .i64 m3) = W3 := ⟨_, rfl⟩
      rw [hW3]
      obtain ⟨b1, b2⟩ := HW8.out.box (i := 0) (u := .string m0) HBX.out
      obtain ⟨b1, b2⟩ := b1.box (i := 1) (u := .int .i64 m1) b2
      obtain ⟨b1, b2⟩ := b1.box (i := 2) (u := .int .i64 m2) b2
      obtain ⟨b1, b2⟩ := b1.box (i := 3) (u := .int .i64 m3) b2
      have hB3 := (((HB8.out.setCell (p := ⟨gb, 0, none⟩) HG.out (.string m0)).setCell (p := ⟨gb, 1, none⟩) HG.out (.int .i64 m1)).setCell (p := ⟨gb, 2, none⟩) HG.out (.int .i64 m2)).setCell (p := ⟨gb, 3, none⟩) HG.out (.int .i64 m3)
      rw [hW3] at b1 b2 hB3
      have b2 : W3.heap[gb]? = some (.cells #[.string m0, .int .i64 m1, .int .i64 m2, .int .i64 m3] 37 (0, 0)) := b2
      have HW3 := Aside0.mk b1
      have HB3 := Aside0.mk hB3
      have BX := Aside0.mk b2
      have z0 := (blk_cell b2 0)
      have z1 := (blk_cell b2 1)
      have z2 := (blk_cell b2 2)
      have z3 := (blk_cell b2 3)
      simp at z0 z1 z2 z3
      have hx := HX.out
      rw [drop_at l0 i hlt, HM.out] at hx
      simp only [writeL] at hx
      obtain ⟨t, ht, hx⟩ := Option.bind_eq_some_iff.1 hx
      have HT := Aside0.mk ht
      clear b1 b2 hB3 hW3 HB8 HW8 HBX ht hx0 hx1 hx2 hx3
      cases t with
      | false =>
        simp at hx
        obtain ⟨rfl, rfl⟩ := hx
        go_wp2_with (go_at_call 17; refine (message_Valid.calls k m0 m1 m2 m3 false _ HT.out).mono ?_; rintro e w4 ⟨rfl, hb⟩; have HB4 := Aside0.mk (HB3.out.trans (hb.mono HW3.out.top)); clear hb)
        go_ret2
        exact ⟨_, rfl, Kd.R_nil _ _ _ _ _, HB4.out⟩
      | true =>
        rw [if_pos rfl] at hx
        by_cases hok : OkM ⟨m0, m1, m2, m3⟩ ∧ out.length ≤ 90000
        · rw [if_pos hok] at hx
          obtain ⟨⟨k0, k1, k2, k3, k4, k5, k6⟩, hol⟩ := hok
          simp only [] at k0 k1 k2 k3 k4 k5 k6
          have HOL := Aside0.mk hol
          have HK6 := Aside0.mk k6
          have HY := Aside0.mk hx
          clear hol k6 hx
          go_upto_region 7 with (go_at_call 17; refine (message_Valid.calls k m0 m1 m2 m3 true _ HT.out).mono ?_; rintro e w4 ⟨rfl, hb⟩; have HB4 := Aside0.mk (HB3.out.trans (hb.mono HW3.out.top)); have HW4 := Aside0.mk (HW3.out.below hb); have BX4 := Aside0.mk ((hb.block gb (blk_lt BX.out)).trans BX.out); clear hb)
          have q0 := (blk_cell BX4.out 0)
          have q1 := (blk_cell BX4.out 1)
          have q2 := (blk_cell BX4.out 2)
          have q3 := (blk_cell BX4.out 3)
          simp at q0 q1 q2 q3
          clear z0 z1 z2 z3 y0 y1 y2 y3
          by_cases e0 : m0.toList = ([111, 110] : List UInt8)
          · have c0 : (m0.toList == ([111, 110] : List UInt8)) = true := beq_iff_eq.mpr e0
            have hy := HY.out
            have ht : tripsOf ⟨m0, m1, m2, m3⟩ = [(144 + m1, m2, m3)] := by unfold tripsOf; simp only []; rw [if_pos e0]
            rw [putM, ht] at hy
            simp only [List.foldl_cons, List.foldl_nil, putT] at hy
            have HZ := Aside0.mk hy
            have hm3 : m3 ≤ 127 := by
              rcases HK6.out with h | ⟨h1, h2, h3⟩
              · exact h
              · exact absurd e0 h1
            clear hy ht e0
            go_wp2_with (go_at_call 31; refine (put_any _ w.heap.size w.heap.size _ out a1 last (144 + m1) (m2) (m3) HW4.out (by omega) (by omega) (by omega) (by omega) (by omega) (by omega) (by have := HOL.out; omega)).mono ?_; rintro e w5 ⟨rfl, bv5, hw, hb, hk⟩; have HW5 := Aside0.mk hw; have HB5 := Aside0.mk (HB4.out.trans hb); clear hw hb hk)
            go_roundw
            case rel => exact ⟨i + 1, _, _, _, by omega, by go_num, HZ, HW5, HB5⟩
            case measure => simp [intOf]; omega
          · have c0 : (m0.toList == ([111, 110] : List UInt8)) = false := beq_eq_false_iff_ne.mpr e0
            by_cases e1 : m0.toList = ([111, 102, 102] : List UInt8)
            · have c1 : (m0.toList == ([111, 102, 102] : List UInt8)) = true := beq_iff_eq.mpr e1
              have hy := HY.out
              have ht : tripsOf ⟨m0, m1, m2, m3⟩ = [(128 + m1, m2, m3)] := by unfold tripsOf; simp only []; rw [if_neg e0, if_pos e1]
              rw [putM, ht] at hy
              simp only [List.foldl_cons, List.foldl_nil, putT] at hy
              have HZ := Aside0.mk hy
              have hm3 : m3 ≤ 127 := by
                rcases HK6.out with h | ⟨h1, h2, h3⟩
                · exact h
                · exact absurd e1 h2
              clear hy ht e0 e1
              go_wp2_with (go_at_call 31; refine (put_any _ w.heap.size w.heap.size _ out a1 last (128 + m1) (m2) (m3) HW4.out (by omega) (by omega) (by omega) (by omega) (by omega) (by omega) (by have := HOL.out; omega)).mono ?_; rintro e w5 ⟨rfl, bv5, hw, hb, hk⟩; have HW5 := Aside0.mk hw; have HB5 := Aside0.mk (HB4.out.trans hb); clear hw hb hk)
              go_roundw
              case rel => exact ⟨i + 1, _, _, _, by omega, by go_num, HZ, HW5, HB5⟩
              case measure => simp [intOf]; omega
            · have c1 : (m0.toList == ([111, 102, 102] : List UInt8)) = false := beq_eq_false_iff_ne.mpr e1
              by_cases e2 : m0.toList = ([99, 111, 110, 116, 114, 111, 108] : List UInt8)
              · have c2 : (m0.toList == ([99, 111, 110, 116, 114, 111, 108] : List UInt8)) = true := beq_iff_eq.mpr e2
                have hy := HY.out
                have ht : tripsOf ⟨m0, m1, m2, m3⟩ = [(176 + m1, m2, m3)] := by unfold tripsOf; simp only []; rw [if_neg e0, if_neg e1, if_pos e2]
                rw [putM, ht] at hy
                simp only [List.foldl_cons, List.foldl_nil, putT] at hy
                have HZ := Aside0.mk hy
                have hm3 : m3 ≤ 127 := by
                  rcases HK6.out with h | ⟨h1, h2, h3⟩
                  · exact h
                  · exact absurd e2 h3
                clear hy ht e0 e1 e2
                go_wp2_with (go_at_call 31; refine (put_any _ w.heap.size w.heap.size _ out a1 last (176 + m1) (m2) (m3) HW4.out (by omega) (by omega) (by omega) (by omega) (by omega) (by omega) (by have := HOL.out; omega)).mono ?_; rintro e w5 ⟨rfl, bv5, hw, hb, hk⟩; have HW5 := Aside0.mk hw; have HB5 := Aside0.mk (HB4.out.trans hb); clear hw hb hk)
                go_roundw
                case rel => exact ⟨i + 1, _, _, _, by omega, by go_num, HZ, HW5, HB5⟩
                case measure => simp [intOf]; omega
              · have c2 : (m0.toList == ([99, 111, 110, 116, 114, 111, 108] : List UInt8)) = false := beq_eq_false_iff_ne.mpr e2
                by_cases e3 : m0.toList = ([98, 101, 110, 100] : List UInt8)
                · have c3 : (m0.toList == ([98, 101, 110, 100] : List UInt8)) = true := beq_iff_eq.mpr e3
                  have hy := HY.out
                  have ht : tripsOf ⟨m0, m1, m2, m3⟩ = [(224 + m1, m3 % 128, m3 / 128)] := by unfold tripsOf; simp only []; rw [if_neg e0, if_neg e1, if_neg e2, if_pos e3]
                  rw [putM, ht] at hy
                  simp only [List.foldl_cons, List.foldl_nil, putT] at hy
                  have HZ := Aside0.mk hy
                  clear hy ht e0 e1 e2 e3
                  go_wp2_with (go_at_call 31; refine (put_any _ w.heap.size w.heap.size _ out a1 last (224 + m1) (m3 % 128) (m3 / 128) HW4.out (by omega) (by omega) (by omega) (by omega) (by omega) (by omega) (by have := HOL.out; omega)).mono ?_; rintro e w5 ⟨rfl, bv5, hw, hb, hk⟩; have HW5 := Aside0.mk hw; have HB5 := Aside0.mk (HB4.out.trans hb); clear hw hb hk)
                  go_roundw
                  case rel => exact ⟨i + 1, _, _, _, by omega, by go_num, HZ, HW5, HB5⟩
                  case measure => simp [intOf]; omega
                · have c3 : (m0.toList == ([98, 101, 110, 100] : List UInt8)) = false := beq_eq_false_iff_ne.mpr e3
                  by_cases e4 : m0.toList = ([119, 105, 100, 101] : List UInt8)
                  · have c4 : (m0.toList == ([119, 105, 100, 101] : List UInt8)) = true := beq_iff_eq.mpr e4
                    have hy := HY.out
                    have ht : tripsOf ⟨m0, m1, m2, m3⟩ = [(176 + m1, m2, m3 / 128), (176 + m1, m2 + 32, m3 % 128)] := by unfold tripsOf; simp only []; rw [if_neg e0, if_neg e1, if_neg e2, if_neg e3, if_pos e4]
                    rw [putM, ht] at hy
                    simp only [List.foldl_cons, List.foldl_nil, putT] at hy
                    have HZ := Aside0.mk hy
                    have HPL := Aside0.mk (putB_len a1 last (176 + m1) m2 (m3 / 128))
                    clear hy ht e0 e1 e2 e3 e4
                    go_upto_region 18 with (go_at_call 31; refine (put_any _ w.heap.size w.heap.size _ out a1 last (176 + m1) (m2) (m3 / 128) HW4.out (by omega) (by omega) (by omega) (by omega) (by omega) (by omega) (by have := HOL.out; omega)).mono ?_; rintro e w5 ⟨rfl, bv5, hw, hb, hk⟩; have HW5 := Aside0.mk hw; have HB5 := Aside0.mk (HB4.out.trans hb); have BX5 := Aside0.mk (hk _ _ BX4.out); clear hw hb hk)
                    have q1 := (blk_cell BX5.out 1)
                    have q2 := (blk_cell BX5.out 2)
                    have q3 := (blk_cell BX5.out 3)
                    simp at q1 q2 q3
                    go_wp2_with (go_at_call 31; refine (put_any _ w.heap.size w.heap.size _ _ a1 (176 + m1) (176 + m1) (m2 + 32) (m3 % 128) HW5.out (by omega) (by omega) (by omega) (by omega) (by omega) (by omega) (by have := HOL.out; have := HPL.out; simp; omega)).mono ?_; rintro e w6 ⟨rfl, bv6, hw, hb, hk⟩; have HW6 := Aside0.mk hw; have HB6 := Aside0.mk (HB5.out.trans hb); clear hw hb hk)
                    go_roundw
                    case rel => exact ⟨i + 1, _, _, _, by omega, by go_num, HZ, HW6, HB6⟩
                    case measure => simp [intOf]; omega
                  · have c4 : (m0.toList == ([119, 105, 100, 101] : List UInt8)) = false := beq_eq_false_iff_ne.mpr e4
                    have hy := HY.out
                    have ht : tripsOf ⟨m0, m1, m2, m3⟩ = [] := by unfold tripsOf; simp only []; rw [if_neg e0, if_neg e1, if_neg e2, if_neg e3, if_neg e4]
                    rw [putM, ht] at hy
                    simp only [List.foldl_nil] at hy
                    have HZ := Aside0.mk hy
                    clear hy ht e0 e1 e2 e3 e4
                    go_wp2
                    go_roundw
                    case rel => exact ⟨i + 1, _, _, _, by omega, by go_num, HZ, HW4, HB4⟩
                    case measure => simp [intOf]; omega
        · rw [if_neg hok] at hx
          cases hx
    · have hx := HX.out
      rw [List.drop_of_length_le (by omega)] at hx
      simp only [writeL, Option.some.injEq, Prod.mk.injEq] at hx
      obtain ⟨rfl, rfl⟩ := hx
      have z0 := wt_c0 HWt.out
      go_wp2
      go_ret2
      exact ⟨_, rfl, HWt.out.own, HB.out⟩
end

/-! ### serinetteref21_plain: function 32 -/
def serinetteref21_plain.l0 : Nat → List (S37) → List (S37) → Int → Int → Option ((List (S37)))
  | 0, _, _, _, _ => none
  | k + 1, x3, x6, x7, x8 => if x8 < x7 then (if 0 ≤ x8 then (if x8 < (x6.length : Int) then (if ((rd_T37 x6 x8).f0).toList = ([119, 105, 100, 101] : List UInt8) then (if x3.length < 3518437208883 then ((some (x3 ++ [(⟨(⟨#[99, 111, 110, 116, 114, 111, 108]⟩ : ByteArray), (rd_T37 x6 x8).f1, (rd_T37 x6 x8).f2, wrap64 (Int.tdiv ((rd_T37 x6 x8).f3) 128)⟩ : S37)] : List (S37))).bind fun y125 => (if y125.length < 3518437208883 then (serinetteref21_plain.l0 k (y125 ++ [(⟨(⟨#[99, 111, 110, 116, 114, 111, 108]⟩ : ByteArray), (rd_T37 x6 x8).f1, wrap64 (((rd_T37 x6 x8).f2) + 32), Int.tmod ((rd_T37 x6 x8).f3) 128⟩ : S37)]) x6 x7 (wrap64 (x8 + 1))) else (none))) else (none)) else (if x3.length < 3518437208883 then (serinetteref21_plain.l0 k (x3 ++ [(⟨(rd_T37 x6 x8).f0, (rd_T37 x6 x8).f1, (rd_T37 x6 x8).f2, (rd_T37 x6 x8).f3⟩ : S37)]) x6 x7 (wrap64 (x8 + 1))) else (none))) else (none)) else (none)) else (some x3)
def serinetteref21_plain.f (k : Nat) (l0 : List (S37)) : Option ((List (S37))) := serinetteref21_plain.l0 k ([] : List (S37)) l0 (l0.length : Int) 0
theorem serinetteref21_plain.mono_l : ∀ k, (∀ y0 y1 y2 y3, LeO (serinetteref21_plain.l0 k y0 y1 y2 y3) (serinetteref21_plain.l0 (k + 1) y0 y1 y2 y3))
  | 0 => fun _ _ _ _ r h => by simp [serinetteref21_plain.l0] at h
  | k + 1 => by
    have ih0 := serinetteref21_plain.mono_l k
    · intro y0 y1 y2 y3
      unfold serinetteref21_plain.l0
      repeat' first
      | (with_reducible exact ih0 _ _ _ _)
      | (with_reducible exact LeO.refl _)
      | (with_reducible exact LeO.none _)
      | (with_reducible refine LeO.ite ?_ ?_)
      | (with_reducible refine LeO.bind ?_ (fun _ => ?_))
      | exact ih0 _ _ _ _
      | exact LeO.none _
      | refine LeO.ite ?_ ?_
      | refine LeO.bind ?_ (fun _ => ?_)
theorem serinetteref21_plain.mono : ∀ a0 k, LeO (serinetteref21_plain.f k a0) (serinetteref21_plain.f (k + 1) a0) := by
  intro a0 k
  have ih0 := serinetteref21_plain.mono_l k
  unfold serinetteref21_plain.f
  repeat' first
      | (with_reducible exact ih0 _ _ _ _)
      | (with_reducible exact LeO.refl _)
      | (with_reducible exact LeO.none _)
      | (with_reducible refine LeO.ite ?_ ?_)
      | (with_reducible refine LeO.bind ?_ (fun _ => ?_))
      | exact ih0 _ _ _ _
      | exact LeO.none _
      | refine LeO.ite ?_ ?_
      | refine LeO.bind ?_ (fun _ => ?_)
set_option maxHeartbeats 8000000 in
set_option maxRecDepth 100000 in
theorem serinetteref21_plain.calls (k : Nat) (A0 : Option Addr) (c0 : Nat) (l0 : List (S37)) (r : List (S37)) (w : World) (hr0 : Kd.C k37 w A0 l0.length l0) (hc0 : l0.length ≤ c0) (h : serinetteref21_plain.f k l0 = some r) :
    Calls Try.prog 32 #[.slice A0 l0.length c0] w fun e w' => ∃ v0_ : Value, e = .returned (v0_) ∧ Kd.R k37 37 w' w.heap.size (fun _ => True) v0_ r ∧ Below w.heap.size w w' := by
  have hu37 := Try.underlying37
  have HR0 := Aside0.mk hr0
  have HC0 := Aside0.mk hc0
  clear hr0 hc0
  have HB := Aside0.mk (Below.refl w.heap.size w)
  have H : (serinetteref21_plain.l0 k ([] : List (S37)) l0 (l0.length : Int) 0) = some r := h
  clear h
  have H' := Aside0.mk H
  clear H
  go_enter Try.func32, Try.ntmps32
  go_wp2
  go_loopg [3, 8] k (fun kq v3 v8 w' => ∃ (x3_1 : List (S37)) (x8_1 : Int), v8 = .int .i64 x8_1 ∧ Aside0 (serinetteref21_plain.l0 kq x3_1 l0 (l0.length : Int) x8_1 = some r) ∧ Aside0 (kq ≤ k) ∧ Aside0 (Kd.R k37 37 w' w.heap.size (fun _ => True) v3 x3_1) ∧ Aside0 (Below w.heap.size w w'))
  case atStart => exact ⟨(([] : List (S37))), (0), (by first | rfl | (simp; done) | (simp [*]; done)), H', ⟨Nat.le_refl _⟩, ⟨by first | exact Kd.R_nil _ _ _ _ _ | exact Kd.N_nil _ _ _ _ _ | exact Kd.V_nil _ _ _ _ _ | exact Kd.Q_nil _ _ _ _ _ | exact Kd.S_nil _ _ _ _ _⟩, ⟨by repeat (first | (with_reducible first | exact HB.out | apply below_alloc | apply pw_below_drewN | apply below_drew1) | exact HB.out)⟩⟩
  case round =>
    clear H'
    obtain ⟨x3_1, x8_1, rfl, HA, HK1, HO_3, HB⟩ := hrel
    cases gk with
    | zero => exact absurd HA.out (by simp [serinetteref21_plain.l0])
    | succ k1 =>
      have H := HA.out
      clear HA
      simp only [serinetteref21_plain.l0] at H
      by_cases c2 : x8_1 < (l0.length : Int)
      · rw [if_pos c2] at H
        have c2b0 : decide (x8_1 < (l0.length : Int)) = true := decide_eq_true c2
        clear c2
        by_cases c3 : 0 ≤ x8_1
        · rw [if_pos c3] at H
          have c3b0 : decide (0 ≤ x8_1) = true := decide_eq_true c3
          clear c3
          by_cases c4 : x8_1 < (l0.length : Int)
          · rw [if_pos c4] at H
            have c4b0 : decide (x8_1 < (l0.length : Int)) = true := decide_eq_true c4
            clear c4
            by_cases c5 : ((rd_T37 l0 x8_1).f0).toList = ([119, 105, 100, 101] : List UInt8)
            · rw [if_pos c5] at H
              have c5b0 : (((rd_T37 l0 x8_1).f0).toList == ([119, 105, 100, 101] : List UInt8)) = true := beq_iff_eq.mpr c5
              have c5b1 : (((rd_T37 l0 x8_1).f0).toList != ([119, 105, 100, 101] : List UInt8)) = false := bne_eq_false_iff_eq.mpr c5
              clear c5
              by_cases c6 : x3_1.length < 3518437208883
              · rw [if_pos c6] at H
                have LMc6 := Aside0.mk c6
                clear c6
                obtain ⟨y125, hy125⟩ : ∃ y_ : List (S37), y_ = (x3_1 ++ [(⟨(⟨#[99, 111, 110, 116, 114, 111, 108]⟩ : ByteArray), (rd_T37 l0 x8_1).f1, (rd_T37 l0 x8_1).f2, wrap64 (Int.tdiv ((rd_T37 l0 x8_1).f3) 128)⟩ : S37)]) := ⟨_, rfl⟩
                replace H : (if y125.length < 3518437208883 then (serinetteref21_plain.l0 k1 (y125 ++ [(⟨(⟨#[99, 111, 110, 116, 114, 111, 108]⟩ : ByteArray), (rd_T37 l0 x8_1).f1, wrap64 (((rd_T37 l0 x8_1).f2) + 32), Int.tmod ((rd_T37 l0 x8_1).f3) 128⟩ : S37)]) l0 (l0.length : Int) (wrap64 (x8_1 + 1))) else (none)) = some r := by first | (rw [hy125]; with_reducible exact H) | (have H2_ := (Option.bind_some _ _).symm.trans H; rw [hy125]; with_reducible exact H2_) | (have H2_ := (Option.bind_some _ _).symm.trans H; with_reducible exact H2_) | with_reducible exact H | (rw [hy125]; exact H) | exact H
                have Ny125 := Aside0.mk hy125
                clear hy125
                by_cases c7 : y125.length < 3518437208883
                · rw [if_pos c7] at H
                  have LMc7 := Aside0.mk c7
                  clear c7
                  obtain ⟨y128, hy128⟩ : ∃ y_ : List (S37), y_ = (y125 ++ [(⟨(⟨#[99, 111, 110, 116, 114, 111, 108]⟩ : ByteArray), (rd_T37 l0 x8_1).f1, wrap64 (((rd_T37 l0 x8_1).f2) + 32), Int.tmod ((rd_T37 l0 x8_1).f3) 128⟩ : S37)]) := ⟨_, rfl⟩
                  replace H : (serinetteref21_plain.l0 k1 y128 l0 (l0.length : Int) (wrap64 (x8_1 + 1))) = some r := by first | (rw [hy128]; with_reducible exact H) | (have H2_ := (Option.bind_some _ _).symm.trans H; rw [hy128]; with_reducible exact H2_) | (have H2_ := (Option.bind_some _ _).symm.trans H; with_reducible exact H2_) | with_reducible exact H | (rw [hy128]; exact H) | exact H
                  have Ny128 := Aside0.mk hy128
                  clear hy128
                  have H' := Aside0.mk H
                  clear H
                  have p123 : 0 ≤ (x8_1 : Int) := of_decide_eq_true (by first | (with_reducible assumption) | assumption)
                  have q123 : x8_1 < (l0.length : Int) := of_decide_eq_true (by first | (with_reducible assumption) | assumption)
                  obtain ⟨ad123, e123, hx123_0, hx123_1, hx123_2, hx123_3⟩ := at_T37 HR0.out x8_1 p123 q123
                  cases e123
                  replace hx123_0 := (HB.out.cell (World.block_lt_of_cell? w _ hx123_0)).trans hx123_0
                  replace hx123_1 := (HB.out.cell (World.block_lt_of_cell? w _ hx123_1)).trans hx123_1
                  replace hx123_2 := (HB.out.cell (World.block_lt_of_cell? w _ hx123_2)).trans hx123_2
                  replace hx123_3 := (HB.out.cell (World.block_lt_of_cell? w _ hx123_3)).trans hx123_3
                  replace p123 := eq_true p123
                  replace q123 := eq_true q123
                  go_wp2_with (first | ((with_reducible refine gate_dst (N := 5) rfl ?_); refine box_event ?hg (N := 5) ?hd (cs := #[.string (⟨#[]⟩ : ByteArray), .int .i64 0, .int .i64 0, .int .i64 0]) (t := 37) ?hr ?_; (case hd => rfl); (case hg => rfl); (case hr => first | (go_simp; done) | (go_simp; rfl)); intro gb124 hg w8 hbox hb; have n0_ := Aside0.mk (Kd.R_below (Kd.R_elderB (by (with_reducible repeat (first | apply Kd.R_alloc | apply Kd.R_drewN | apply Kd.R_drew)); exact HO_3.out) gb124 (Nat.le_of_eq hg.symm)) hb); have n1_ := Aside0.mk (below_step (by repeat (first | (with_reducible first | exact HB.out | apply below_alloc | apply pw_below_drewN | apply below_drew1) | exact HB.out)) hb); have n2_ := Aside0.mk (hbox); have n3_ := Aside0.mk ((by rw [hg]; exact (below_size (by repeat (first | (with_reducible first | exact HB.out | apply below_alloc | apply pw_below_drewN | apply below_drew1) | exact HB.out))) : w.heap.size ≤ gb124)); have n4_ := Aside0.mk ((by rw [hg]; exact (below_size (by repeat (first | (with_reducible first | exact HB.out | apply below_alloc | apply pw_below_drewN | apply below_drew1) | exact HB.out))) : w.heap.size ≤ gb124)); clear HO_3; clear HB; have HO_3 := n0_; have HB := n1_; have BK124 := n2_; have GW124 := n3_; have GE124 := n4_; clear n0_ n1_ n2_ n3_ n4_; clear hb hbox hg; have hcz9_0 : w8.cell? ⟨gb124, 0, none⟩ = some (.string (⟨#[]⟩ : ByteArray)) := (blk_cell BK124.out 0).trans rfl; have hcz9_1 : w8.cell? ⟨gb124, 1, none⟩ = some (.int .i64 0) := (blk_cell BK124.out 1).trans rfl; have hcz9_2 : w8.cell? ⟨gb124, 2, none⟩ = some (.int .i64 0) := (blk_cell BK124.out 2).trans rfl; have hcz9_3 : w8.cell? ⟨gb124, 3, none⟩ = some (.int .i64 0) := (blk_cell BK124.out 3).trans rfl; have hfz9_0 := blk_frozen BK124.out 0; have hfz9_1 := blk_frozen BK124.out 1; have hfz9_2 := blk_frozen BK124.out 2; have hfz9_3 := blk_frozen BK124.out 3) | ((with_reducible refine gate_builtin (b := .append) (xs := #[.tmp 19, .tmp 28]) rfl ?_); at_builtin; refine Kd.R_append k37 (w0 := w) w.heap.size rfl (.tmp 19) (.tmp 28) 25 37 (.agg #[(.string ⟨#[]⟩), (.int .i64 0), (.int .i64 0), (.int .i64 0)]) 40 rfl Try.underlying25 info37 rfl (by decide) (by omega) u3 x3_1 (⟨(⟨#[99, 111, 110, 116, 114, 111, 108]⟩ : ByteArray), (rd_T37 l0 x8_1).f1, (rd_T37 l0 x8_1).f2, wrap64 (Int.tdiv ((rd_T37 l0 x8_1).f3) 128)⟩ : S37) [.string (⟨#[99, 111, 110, 116, 114, 111, 108]⟩ : ByteArray), .int .i64 ((rd_T37 l0 x8_1).f1), .int .i64 ((rd_T37 l0 x8_1).f2), .int .i64 (wrap64 (Int.tdiv ((rd_T37 l0 x8_1).f3) 128))] (fun k_ => k_ ≠ gb124) (fun _ => False) rfl (by first | (go_simp; done) | (go_simp; rfl)) ?aP (fun _ hk => hk.elim) ?aF ?aO ?aB ?aS ?aL ?_; (case aP => exact k37_mkM _ _ _ (⟨(⟨#[99, 111, 110, 116, 114, 111, 108]⟩ : ByteArray), (rd_T37 l0 x8_1).f1, (rd_T37 l0 x8_1).f2, wrap64 (Int.tdiv ((rd_T37 l0 x8_1).f3) 128)⟩ : S37)); (case aB => exact (by repeat (first | (with_reducible first | exact HB.out | apply below_alloc | apply pw_below_drewN | apply below_drew1 | refine below_set ?_ GE124.out) | exact HB.out))); (case aF => exact (fun k_ hk => Kd.freshB (g := gb124) (o := .cells #[.string ((rd_T37 l0 x8_1).f0), .int .i64 ((rd_T37 l0 x8_1).f1), .int .i64 ((rd_T37 l0 x8_1).f2), .int .i64 ((rd_T37 l0 x8_1).f3)] 37 (0, 0)) (by (with_reducible repeat (first | refine blk_drewN ?_ _ | refine blk_drew ?_ | refine blk_alloc ?_ _)); refine blk_put (cs := #[.string ((rd_T37 l0 x8_1).f0), .int .i64 ((rd_T37 l0 x8_1).f1), .int .i64 ((rd_T37 l0 x8_1).f2), .int .i64 0]) ?_ 3 _ rfl; (with_reducible repeat (first | refine blk_drewN ?_ _ | refine blk_drew ?_ | refine blk_alloc ?_ _)); refine blk_put (cs := #[.string ((rd_T37 l0 x8_1).f0), .int .i64 ((rd_T37 l0 x8_1).f1), .int .i64 0, .int .i64 0]) ?_ 2 _ rfl; (with_reducible repeat (first | refine blk_drewN ?_ _ | refine blk_drew ?_ | refine blk_alloc ?_ _)); refine blk_put (cs := #[.string ((rd_T37 l0 x8_1).f0), .int .i64 0, .int .i64 0, .int .i64 0]) ?_ 1 _ rfl; (with_reducible repeat (first | refine blk_drewN ?_ _ | refine blk_drew ?_ | refine blk_alloc ?_ _)); refine blk_put (cs := #[.string (⟨#[]⟩ : ByteArray), .int .i64 0, .int .i64 0, .int .i64 0]) ?_ 0 _ rfl; (with_reducible repeat (first | refine blk_drewN ?_ _ | refine blk_drew ?_ | refine blk_alloc ?_ _)); exact BK124.out) k_ hk)); (case aO => exact (by (with_reducible repeat (first | apply Kd.R_alloc | apply Kd.R_drewN | apply Kd.R_drew)); exact Kd.R_mono (Kd.R_far (p := ⟨gb124, 3, none⟩) (Kd.R_far (p := ⟨gb124, 2, none⟩) (Kd.R_far (p := ⟨gb124, 1, none⟩) (Kd.R_far (p := ⟨gb124, 0, none⟩) (Kd.R_mono HO_3.out (fun k_ hk => (⟨hk, hk.2⟩ : _ ∧ k_ ≠ gb124))) (fun _ hk => hk.2) (.string ((rd_T37 l0 x8_1).f0))) (fun _ hk => hk.2) (.int .i64 ((rd_T37 l0 x8_1).f1))) (fun _ hk => hk.2) (.int .i64 ((rd_T37 l0 x8_1).f2))) (fun _ hk => hk.2) (.int .i64 ((rd_T37 l0 x8_1).f3))) (fun _ hk => hk.1.2))); (case aS => exact (below_size (by repeat (first | (with_reducible first | exact HB.out | apply below_alloc | apply pw_below_drewN | apply below_drew1 | refine below_set ?_ GE124.out) | exact HB.out)))); (case aL => have := LMc6.out; omega); intro v126 w10 ho hb hg hat; rw [← Ny125.out] at ho; have n0_ := Aside0.mk (blk_grown (g := gb124) (o := .cells #[.string ((rd_T37 l0 x8_1).f0), .int .i64 ((rd_T37 l0 x8_1).f1), .int .i64 ((rd_T37 l0 x8_1).f2), .int .i64 ((rd_T37 l0 x8_1).f3)] 37 (0, 0)) (by (with_reducible repeat (first | refine blk_drewN ?_ _ | refine blk_drew ?_ | refine blk_alloc ?_ _)); refine blk_put (cs := #[.string ((rd_T37 l0 x8_1).f0), .int .i64 ((rd_T37 l0 x8_1).f1), .int .i64 ((rd_T37 l0 x8_1).f2), .int .i64 0]) ?_ 3 _ rfl; (with_reducible repeat (first | refine blk_drewN ?_ _ | refine blk_drew ?_ | refine blk_alloc ?_ _)); refine blk_put (cs := #[.string ((rd_T37 l0 x8_1).f0), .int .i64 ((rd_T37 l0 x8_1).f1), .int .i64 0, .int .i64 0]) ?_ 2 _ rfl; (with_reducible repeat (first | refine blk_drewN ?_ _ | refine blk_drew ?_ | refine blk_alloc ?_ _)); refine blk_put (cs := #[.string ((rd_T37 l0 x8_1).f0), .int .i64 0, .int .i64 0, .int .i64 0]) ?_ 1 _ rfl; (with_reducible repeat (first | refine blk_drewN ?_ _ | refine blk_drew ?_ | refine blk_alloc ?_ _)); refine blk_put (cs := #[.string (⟨#[]⟩ : ByteArray), .int .i64 0, .int .i64 0, .int .i64 0]) ?_ 0 _ rfl; (with_reducible repeat (first | refine blk_drewN ?_ _ | refine blk_drew ?_ | refine blk_alloc ?_ _)); exact BK124.out) hg (Kd.R_away HO_3.out (fun _ hk => hk.2))); have n1_ := Aside0.mk (hb); have n2_ := Aside0.mk (ho); clear BK124; clear HB; clear HO_3; have BK124 := n0_; have HB := n1_; have HO127 := n2_; clear n0_ n1_ n2_; clear ho hb hg hat; have hcz11_0 : w10.cell? ⟨gb124, 0, none⟩ = some (.string ((rd_T37 l0 x8_1).f0)) := (blk_cell BK124.out 0).trans rfl; have hcz11_1 : w10.cell? ⟨gb124, 1, none⟩ = some (.int .i64 ((rd_T37 l0 x8_1).f1)) := (blk_cell BK124.out 1).trans rfl; have hcz11_2 : w10.cell? ⟨gb124, 2, none⟩ = some (.int .i64 ((rd_T37 l0 x8_1).f2)) := (blk_cell BK124.out 2).trans rfl; have hcz11_3 : w10.cell? ⟨gb124, 3, none⟩ = some (.int .i64 ((rd_T37 l0 x8_1).f3)) := (blk_cell BK124.out 3).trans rfl; have hfz11_0 := blk_frozen BK124.out 0; have hfz11_1 := blk_frozen BK124.out 1; have hfz11_2 := blk_frozen BK124.out 2; have hfz11_3 := blk_frozen BK124.out 3) | ((with_reducible refine gate_builtin (b := .append) (xs := #[.tmp 30, .tmp 40]) rfl ?_); at_builtin; refine Kd.R_append k37 (w0 := w) w.heap.size rfl (.tmp 30) (.tmp 40) 25 37 (.agg #[(.string ⟨#[]⟩), (.int .i64 0), (.int .i64 0), (.int .i64 0)]) 40 rfl Try.underlying25 info37 rfl (by decide) (by omega) v126 y125 (⟨(⟨#[99, 111, 110, 116, 114, 111, 108]⟩ : ByteArray), (rd_T37 l0 x8_1).f1, wrap64 (((rd_T37 l0 x8_1).f2) + 32), Int.tmod ((rd_T37 l0 x8_1).f3) 128⟩ : S37) [.string (⟨#[99, 111, 110, 116, 114, 111, 108]⟩ : ByteArray), .int .i64 ((rd_T37 l0 x8_1).f1), .int .i64 (wrap64 (((rd_T37 l0 x8_1).f2) + 32)), .int .i64 (Int.tmod ((rd_T37 l0 x8_1).f3) 128)] (fun k_ => k_ ≠ gb124) (fun _ => False) rfl rfl ?aP (fun _ hk => hk.elim) ?aF ?aO ?aB ?aS ?aL ?_; (case aP => exact k37_mkM _ _ _ (⟨(⟨#[99, 111, 110, 116, 114, 111, 108]⟩ : ByteArray), (rd_T37 l0 x8_1).f1, wrap64 (((rd_T37 l0 x8_1).f2) + 32), Int.tmod ((rd_T37 l0 x8_1).f3) 128⟩ : S37)); (case aB => exact (by repeat (first | (with_reducible first | exact HB.out | apply below_alloc | apply pw_below_drewN | apply below_drew1 | refine below_set ?_ GE124.out) | exact HB.out))); (case aF => exact (fun k_ hk => Kd.freshB (g := gb124) (o := .cells #[.string ((rd_T37 l0 x8_1).f0), .int .i64 ((rd_T37 l0 x8_1).f1), .int .i64 ((rd_T37 l0 x8_1).f2), .int .i64 ((rd_T37 l0 x8_1).f3)] 37 (0, 0)) (by (with_reducible repeat (first | refine blk_drewN ?_ _ | refine blk_drew ?_ | refine blk_alloc ?_ _)); exact BK124.out) k_ hk)); (case aO => exact (by (with_reducible repeat (first | apply Kd.R_alloc | apply Kd.R_drewN | apply Kd.R_drew)); exact HO127.out)); (case aS => exact (below_size (by repeat (first | (with_reducible first | exact HB.out | apply below_alloc | apply pw_below_drewN | apply below_drew1 | refine below_set ?_ GE124.out) | exact HB.out)))); (case aL => have := LMc7.out; omega); intro v129 w12 ho hb hg hat; rw [← Ny128.out] at ho; have n0_ := Aside0.mk (blk_grown (g := gb124) (o := .cells #[.string ((rd_T37 l0 x8_1).f0), .int .i64 ((rd_T37 l0 x8_1).f1), .int .i64 ((rd_T37 l0 x8_1).f2), .int .i64 ((rd_T37 l0 x8_1).f3)] 37 (0, 0)) (by (with_reducible repeat (first | refine blk_drewN ?_ _ | refine blk_drew ?_ | refine blk_alloc ?_ _)); exact BK124.out) hg (Kd.R_away HO127.out (fun _ hk => hk))); have n1_ := Aside0.mk (hb); have n2_ := Aside0.mk (ho); clear BK124; clear HB; clear HO127; have BK124 := n0_; have HB := n1_; have HO130 := n2_; clear n0_ n1_ n2_; clear ho hb hg hat))
                  go_roundg k1
                  case measure => have := HK1.out; omega
                  case rel => exact ⟨(y128), (wrap64 (x8_1 + 1)), (by first | rfl | (simp; done) | (simp [*]; done)), H', ⟨by have := HK1.out; omega⟩, ⟨by (with_reducible repeat (first | apply Kd.R_alloc | apply Kd.R_drewN | apply Kd.R_drew)); exact Kd.R_mono HO130.out (fun _ hk => trivial)⟩, ⟨by repeat (first | (with_reducible first | exact HB.out | apply below_alloc | apply pw_below_drewN | apply below_drew1 | refine below_set ?_ GE124.out) | exact HB.out)⟩⟩
                · rw [if_neg c7] at H
                  exact absurd H (by simp)
              · rw [if_neg c6] at H
                exact absurd H (by simp)
            · rw [if_neg c5] at H
              have c5b0 : (((rd_T37 l0 x8_1).f0).toList == ([119, 105, 100, 101] : List UInt8)) = false := beq_eq_false_iff_ne.mpr c5
              have c5b1 : (((rd_T37 l0 x8_1).f0).toList != ([119, 105, 100, 101] : List UInt8)) = true := bne_iff_ne.mpr c5
              by_cases c13 : x3_1.length < 3518437208883
              · rw [if_pos c13] at H
                have LMc13 := Aside0.mk c13
                clear c13
                obtain ⟨y131, hy131⟩ : ∃ y_ : List (S37), y_ = (x3_1 ++ [(⟨(rd_T37 l0 x8_1).f0, (rd_T37 l0 x8_1).f1, (rd_T37 l0 x8_1).f2, (rd_T37 l0 x8_1).f3⟩ : S37)]) := ⟨_, rfl⟩
                replace H : (serinetteref21_plain.l0 k1 y131 l0 (l0.length : Int) (wrap64 (x8_1 + 1))) = some r := by first | (rw [hy131]; with_reducible exact H) | (have H2_ := (Option.bind_some _ _).symm.trans H; rw [hy131]; with_reducible exact H2_) | (have H2_ := (Option.bind_some _ _).symm.trans H; with_reducible exact H2_) | with_reducible exact H | (rw [hy131]; exact H) | exact H
                have Ny131 := Aside0.mk hy131
                clear hy131
                have H' := Aside0.mk H
                clear H
                have p123 : 0 ≤ (x8_1 : Int) := of_decide_eq_true (by first | (with_reducible assumption) | assumption)
                have q123 : x8_1 < (l0.length : Int) := of_decide_eq_true (by first | (with_reducible assumption) | assumption)
                obtain ⟨ad123, e123, hx123_0, hx123_1, hx123_2, hx123_3⟩ := at_T37 HR0.out x8_1 p123 q123
                cases e123
                replace hx123_0 := (HB.out.cell (World.block_lt_of_cell? w _ hx123_0)).trans hx123_0
                replace hx123_1 := (HB.out.cell (World.block_lt_of_cell? w _ hx123_1)).trans hx123_1
                replace hx123_2 := (HB.out.cell (World.block_lt_of_cell? w _ hx123_2)).trans hx123_2
                replace hx123_3 := (HB.out.cell (World.block_lt_of_cell? w _ hx123_3)).trans hx123_3
                replace p123 := eq_true p123
                replace q123 := eq_true q123
                go_wp2_with (first | ((with_reducible refine gate_dst (N := 5) rfl ?_); refine box_event ?hg (N := 5) ?hd (cs := #[.string (⟨#[]⟩ : ByteArray), .int .i64 0, .int .i64 0, .int .i64 0]) (t := 37) ?hr ?_; (case hd => rfl); (case hg => rfl); (case hr => first | (go_simp; done) | (go_simp; rfl)); intro gb124 hg w14 hbox hb; have n0_ := Aside0.mk (Kd.R_below (Kd.R_elderB (by (with_reducible repeat (first | apply Kd.R_alloc | apply Kd.R_drewN | apply Kd.R_drew)); exact HO_3.out) gb124 (Nat.le_of_eq hg.symm)) hb); have n1_ := Aside0.mk (below_step (by repeat (first | (with_reducible first | exact HB.out | apply below_alloc | apply pw_below_drewN | apply below_drew1) | exact HB.out)) hb); have n2_ := Aside0.mk (hbox); have n3_ := Aside0.mk ((by rw [hg]; exact (below_size (by repeat (first | (with_reducible first | exact HB.out | apply below_alloc | apply pw_below_drewN | apply below_drew1) | exact HB.out))) : w.heap.size ≤ gb124)); have n4_ := Aside0.mk ((by rw [hg]; exact (below_size (by repeat (first | (with_reducible first | exact HB.out | apply below_alloc | apply pw_below_drewN | apply below_drew1) | exact HB.out))) : w.heap.size ≤ gb124)); clear HO_3; clear HB; have HO_3 := n0_; have HB := n1_; have BK124 := n2_; have GW124 := n3_; have GE124 := n4_; clear n0_ n1_ n2_ n3_ n4_; clear hb hbox hg; have hcz15_0 : w14.cell? ⟨gb124, 0, none⟩ = some (.string (⟨#[]⟩ : ByteArray)) := (blk_cell BK124.out 0).trans rfl; have hcz15_1 : w14.cell? ⟨gb124, 1, none⟩ = some (.int .i64 0) := (blk_cell BK124.out 1).trans rfl; have hcz15_2 : w14.cell? ⟨gb124, 2, none⟩ = some (.int .i64 0) := (blk_cell BK124.out 2).trans rfl; have hcz15_3 : w14.cell? ⟨gb124, 3, none⟩ = some (.int .i64 0) := (blk_cell BK124.out 3).trans rfl; have hfz15_0 := blk_frozen BK124.out 0; have hfz15_1 := blk_frozen BK124.out 1; have hfz15_2 := blk_frozen BK124.out 2; have hfz15_3 := blk_frozen BK124.out 3) | ((with_reducible refine gate_builtin (b := .append) (xs := #[.tmp 15, .tmp 17]) rfl ?_); at_builtin; refine Kd.R_append k37 (w0 := w) w.heap.size rfl (.tmp 15) (.tmp 17) 25 37 (.agg #[(.string ⟨#[]⟩), (.int .i64 0), (.int .i64 0), (.int .i64 0)]) 40 rfl Try.underlying25 info37 rfl (by decide) (by omega) u3 x3_1 (⟨(rd_T37 l0 x8_1).f0, (rd_T37 l0 x8_1).f1, (rd_T37 l0 x8_1).f2, (rd_T37 l0 x8_1).f3⟩ : S37) [.string ((rd_T37 l0 x8_1).f0), .int .i64 ((rd_T37 l0 x8_1).f1), .int .i64 ((rd_T37 l0 x8_1).f2), .int .i64 ((rd_T37 l0 x8_1).f3)] (fun k_ => k_ ≠ gb124) (fun _ => False) rfl (by first | (go_simp; done) | (go_simp; rfl)) ?aP (fun _ hk => hk.elim) ?aF ?aO ?aB ?aS ?aL ?_; (case aP => exact k37_mkM _ _ _ (⟨(rd_T37 l0 x8_1).f0, (rd_T37 l0 x8_1).f1, (rd_T37 l0 x8_1).f2, (rd_T37 l0 x8_1).f3⟩ : S37)); (case aB => exact (by repeat (first | (with_reducible first | exact HB.out | apply below_alloc | apply pw_below_drewN | apply below_drew1 | refine below_set ?_ GE124.out) | exact HB.out))); (case aF => exact (fun k_ hk => Kd.freshB (g := gb124) (o := .cells #[.string ((rd_T37 l0 x8_1).f0), .int .i64 ((rd_T37 l0 x8_1).f1), .int .i64 ((rd_T37 l0 x8_1).f2), .int .i64 ((rd_T37 l0 x8_1).f3)] 37 (0, 0)) (by (with_reducible repeat (first | refine blk_drewN ?_ _ | refine blk_drew ?_ | refine blk_alloc ?_ _)); refine blk_put (cs := #[.string ((rd_T37 l0 x8_1).f0), .int .i64 ((rd_T37 l0 x8_1).f1), .int .i64 ((rd_T37 l0 x8_1).f2), .int .i64 0]) ?_ 3 _ rfl; (with_reducible repeat (first | refine blk_drewN ?_ _ | refine blk_drew ?_ | refine blk_alloc ?_ _)); refine blk_put (cs := #[.string ((rd_T37 l0 x8_1).f0), .int .i64 ((rd_T37 l0 x8_1).f1), .int .i64 0, .int .i64 0]) ?_ 2 _ rfl; (with_reducible repeat (first | refine blk_drewN ?_ _ | refine blk_drew ?_ | refine blk_alloc ?_ _)); refine blk_put (cs := #[.string ((rd_T37 l0 x8_1).f0), .int .i64 0, .int .i64 0, .int .i64 0]) ?_ 1 _ rfl; (with_reducible repeat (first | refine blk_drewN ?_ _ | refine blk_drew ?_ | refine blk_alloc ?_ _)); refine blk_put (cs := #[.string (⟨#[]⟩ : ByteArray), .int .i64 0, .int .i64 0, .int .i64 0]) ?_ 0 _ rfl; (with_reducible repeat (first | refine blk_drewN ?_ _ | refine blk_drew ?_ | refine blk_alloc ?_ _)); exact BK124.out) k_ hk)); (case aO => exact (by (with_reducible repeat (first | apply Kd.R_alloc | apply Kd.R_drewN | apply Kd.R_drew)); exact Kd.R_mono (Kd.R_far (p := ⟨gb124, 3, none⟩) (Kd.R_far (p := ⟨gb124, 2, none⟩) (Kd.R_far (p := ⟨gb124, 1, none⟩) (Kd.R_far (p := ⟨gb124, 0, none⟩) (Kd.R_mono HO_3.out (fun k_ hk => (⟨hk, hk.2⟩ : _ ∧ k_ ≠ gb124))) (fun _ hk => hk.2) (.string ((rd_T37 l0 x8_1).f0))) (fun _ hk => hk.2) (.int .i64 ((rd_T37 l0 x8_1).f1))) (fun _ hk => hk.2) (.int .i64 ((rd_T37 l0 x8_1).f2))) (fun _ hk => hk.2) (.int .i64 ((rd_T37 l0 x8_1).f3))) (fun _ hk => hk.1.2))); (case aS => exact (below_size (by repeat (first | (with_reducible first | exact HB.out | apply below_alloc | apply pw_below_drewN | apply below_drew1 | refine below_set ?_ GE124.out) | exact HB.out)))); (case aL => have := LMc13.out; omega); intro v132 w16 ho hb hg hat; rw [← Ny131.out] at ho; have n0_ := Aside0.mk (blk_grown (g := gb124) (o := .cells #[.string ((rd_T37 l0 x8_1).f0), .int .i64 ((rd_T37 l0 x8_1).f1), .int .i64 ((rd_T37 l0 x8_1).f2), .int .i64 ((rd_T37 l0 x8_1).f3)] 37 (0, 0)) (by (with_reducible repeat (first | refine blk_drewN ?_ _ | refine blk_drew ?_ | refine blk_alloc ?_ _)); refine blk_put (cs := #[.string ((rd_T37 l0 x8_1).f0), .int .i64 ((rd_T37 l0 x8_1).f1), .int .i64 ((rd_T37 l0 x8_1).f2), .int .i64 0]) ?_ 3 _ rfl; (with_reducible repeat (first | refine blk_drewN ?_ _ | refine blk_drew ?_ | refine blk_alloc ?_ _)); refine blk_put (cs := #[.string ((rd_T37 l0 x8_1).f0), .int .i64 ((rd_T37 l0 x8_1).f1), .int .i64 0, .int .i64 0]) ?_ 2 _ rfl; (with_reducible repeat (first | refine blk_drewN ?_ _ | refine blk_drew ?_ | refine blk_alloc ?_ _)); refine blk_put (cs := #[.string ((rd_T37 l0 x8_1).f0), .int .i64 0, .int .i64 0, .int .i64 0]) ?_ 1 _ rfl; (with_reducible repeat (first | refine blk_drewN ?_ _ | refine blk_drew ?_ | refine blk_alloc ?_ _)); refine blk_put (cs := #[.string (⟨#[]⟩ : ByteArray), .int .i64 0, .int .i64 0, .int .i64 0]) ?_ 0 _ rfl; (with_reducible repeat (first | refine blk_drewN ?_ _ | refine blk_drew ?_ | refine blk_alloc ?_ _)); exact BK124.out) hg (Kd.R_away HO_3.out (fun _ hk => hk.2))); have n1_ := Aside0.mk (hb); have n2_ := Aside0.mk (ho); clear BK124; clear HB; clear HO_3; have BK124 := n0_; have HB := n1_; have HO133 := n2_; clear n0_ n1_ n2_; clear ho hb hg hat))
                go_roundg k1
                case measure => have := HK1.out; omega
                case rel => exact ⟨(y131), (wrap64 (x8_1 + 1)), (by first | rfl | (simp; done) | (simp [*]; done)), H', ⟨by have := HK1.out; omega⟩, ⟨by (with_reducible repeat (first | apply Kd.R_alloc | apply Kd.R_drewN | apply Kd.R_drew)); exact Kd.R_mono HO133.out (fun _ hk => trivial)⟩, ⟨by repeat (first | (with_reducible first | exact HB.out | apply below_alloc | apply pw_below_drewN | apply below_drew1 | refine below_set ?_ GE124.out) | exact HB.out)⟩⟩
              · rw [if_neg c13] at H
                exact absurd H (by simp)
          · rw [if_neg c4] at H
            exact absurd H (by simp)
        · rw [if_neg c3] at H
          exact absurd H (by simp)
      · rw [if_neg c2] at H
        have c2b0 : decide (x8_1 < (l0.length : Int)) = false := decide_eq_false c2
        clear c2
        obtain rfl := Option.some.inj H
        go_wp2
        go_ret
        exact ⟨_, by first | rfl | (simp [errW_none, errW_some] <;> rfl) | (simp [*, errW_none, errW_some] <;> rfl), by (with_reducible repeat (first | apply Kd.R_alloc | apply Kd.R_drewN | apply Kd.R_drew)); exact HO_3.out, by repeat (first | (with_reducible first | exact HB.out | apply below_alloc | apply pw_below_drewN | apply below_drew1) | exact HB.out)⟩

/-! ### serinetteref21_three: function 33 -/
def serinetteref21_three.f (a0_0 : ByteArray) (a0_1 : Int) (a0_2 : Int) (a0_3 : Int) : Option (List Int) := if a0_0.toList = ([111, 110] : List UInt8) then (some (([(144 + ((a0_1) % 256)) % 256, (a0_2) % 256, (a0_3) % 256] : List Int))) else (if a0_0.toList = ([111, 102, 102] : List UInt8) then (some (([(128 + ((a0_1) % 256)) % 256, (a0_2) % 256, (a0_3) % 256] : List Int))) else (if a0_0.toList = ([99, 111, 110, 116, 114, 111, 108] : List UInt8) then (some (([(176 + ((a0_1) % 256)) % 256, (a0_2) % 256, (a0_3) % 256] : List Int))) else (some (([(224 + ((a0_1) % 256)) % 256, (Int.tmod a0_3 128) % 256, (wrap64 (Int.tdiv a0_3 128)) % 256] : List Int)))))
set_option maxHeartbeats 8000000 in
set_option maxRecDepth 100000 in
theorem serinetteref21_three.calls (a0_0 : ByteArray) (a0_1 : Int) (a0_2 : Int) (a0_3 : Int) (r : List Int) (w : World) (h : serinetteref21_three.f a0_0 a0_1 a0_2 a0_3 = some r) :
    Calls Try.prog 33 #[.agg #[.string a0_0, .int .i64 a0_1, .int .i64 a0_2, .int .i64 a0_3]] w fun e w' => ∃ v0_ : Value, e = .returned (v0_) ∧ Kd.R (Kd.int .u8) 5 w' w.heap.size (fun _ => True) v0_ r ∧ Below w.heap.size w w' := by
  have hu37 := Try.underlying37
  have HB := Aside0.mk (Below.refl w.heap.size w)
  have H : (if a0_0.toList = ([111, 110] : List UInt8) then (some (([(144 + ((a0_1) % 256)) % 256, (a0_2) % 256, (a0_3) % 256] : List Int))) else (if a0_0.toList = ([111, 102, 102] : List UInt8) then (some (([(128 + ((a0_1) % 256)) % 256, (a0_2) % 256, (a0_3) % 256] : List Int))) else (if a0_0.toList = ([99, 111, 110, 116, 114, 111, 108] : List UInt8) then (some (([(176 + ((a0_1) % 256)) % 256, (a0_2) % 256, (a0_3) % 256] : List Int))) else (some (([(224 + ((a0_1) % 256)) % 256, (Int.tmod a0_3 128) % 256, (wrap64 (Int.tdiv a0_3 128)) % 256] : List Int)))))) = some r := h
  clear h
  by_cases c2 : a0_0.toList = ([111, 110] : List UInt8)
  · rw [if_pos c2] at H
    have c2b0 : (a0_0.toList == ([111, 110] : List UInt8)) = true := beq_iff_eq.mpr c2
    have c2b1 : (a0_0.toList != ([111, 110] : List UInt8)) = false := bne_eq_false_iff_eq.mpr c2
    clear c2
    obtain ⟨y135, hy135⟩ : ∃ y_ : List Int, y_ = (([(144 + ((a0_1) % 256)) % 256, (a0_2) % 256, (a0_3) % 256] : List Int)) := ⟨_, rfl⟩
    replace H : (some y135) = some r := by first | (rw [hy135]; with_reducible exact H) | (have H2_ := (Option.bind_some _ _).symm.trans H; rw [hy135]; with_reducible exact H2_) | (have H2_ := (Option.bind_some _ _).symm.trans H; with_reducible exact H2_) | with_reducible exact H | (rw [hy135]; exact H) | exact H
    have Ny135 := Aside0.mk hy135
    clear hy135
    obtain rfl := Option.some.inj H
    go_enter Try.func33, Try.ntmps33
    go_wp2_with (first | ((with_reducible refine gate_dst (N := 1) rfl ?_); refine box_event ?hg (N := 1) ?hd (cs := #[.string a0_0, .int .i64 a0_1, .int .i64 a0_2, .int .i64 a0_3]) (t := 37) ?hr ?_; (case hd => rfl); (case hg => rfl); (case hr => first | (go_simp; done) | (go_simp; rfl)); intro gb134 hg w3 hbox hb; have n0_ := Aside0.mk (below_step (by repeat (first | (with_reducible first | exact HB.out | apply below_alloc | apply pw_below_drewN | apply below_drew1) | exact HB.out)) hb); have n1_ := Aside0.mk (hbox); have n2_ := Aside0.mk ((by rw [hg]; exact (below_size (by repeat (first | (with_reducible first | exact HB.out | apply below_alloc | apply pw_below_drewN | apply below_drew1) | exact HB.out))) : w.heap.size ≤ gb134)); have n3_ := Aside0.mk ((by rw [hg]; exact (below_size (by repeat (first | (with_reducible first | exact HB.out | apply below_alloc | apply pw_below_drewN | apply below_drew1) | exact HB.out))) : w.heap.size ≤ gb134)); clear HB; have HB := n0_; have BK134 := n1_; have GW134 := n2_; have GE134 := n3_; clear n0_ n1_ n2_ n3_; clear hb hbox hg; have hcz4_0 : w3.cell? ⟨gb134, 0, none⟩ = some (.string a0_0) := (blk_cell BK134.out 0).trans rfl; have hcz4_1 : w3.cell? ⟨gb134, 1, none⟩ = some (.int .i64 a0_1) := (blk_cell BK134.out 1).trans rfl; have hcz4_2 : w3.cell? ⟨gb134, 2, none⟩ = some (.int .i64 a0_2) := (blk_cell BK134.out 2).trans rfl; have hcz4_3 : w3.cell? ⟨gb134, 3, none⟩ = some (.int .i64 a0_3) := (blk_cell BK134.out 3).trans rfl; have hfz4_0 := blk_frozen BK134.out 0; have hfz4_1 := blk_frozen BK134.out 1; have hfz4_2 := blk_frozen BK134.out 2; have hfz4_3 := blk_frozen BK134.out 3) | ((with_reducible refine gate_dst (N := 19) rfl ?_); refine Kd.R_lit (Kd.int .u8) _ 5 ?hg (N := 19) ?hd (xs := ([(144 + ((a0_1) % 256)) % 256, (a0_2) % 256, (a0_3) % 256] : List Int)) (inner := [.int .u8 ((144 + ((a0_1) % 256)) % 256), .int .u8 ((a0_2) % 256), .int .u8 ((a0_3) % 256)]) (ok := fun _ => True) (okp := fun _ => True) ?hr ?hp (fun _ hk => hk) trivial (Below.refl _ _) (Nat.le_refl _) (by simp) ?_; (case hd => rfl); (case hg => rfl); (case hr => first | (go_simp; done) | (go_simp; rfl)); (case hp => exact (Reps.one (show Kd.M (Kd.int .u8) _ _ _ ((144 + ((a0_1) % 256)) % 256) [.int .u8 ((144 + ((a0_1) % 256)) % 256)] from rfl) (Reps.one (show Kd.M (Kd.int .u8) _ _ _ ((a0_2) % 256) [.int .u8 ((a0_2) % 256)] from rfl) (Reps.one (show Kd.M (Kd.int .u8) _ _ _ ((a0_3) % 256) [.int .u8 ((a0_3) % 256)] from rfl) (Reps.none _ _))))); intro v136 w5 ho6 hb hg_ hnew_; clear hg_ hnew_; (first | rw [← Ny135.out] at ho6 | (simp only [Int.reduceToNat] at ho6; rw [← Ny135.out] at ho6)); have n0_ := Aside0.mk (Kd.R_lower ho6 (below_size (by repeat (first | (with_reducible first | exact HB.out | apply below_alloc | apply pw_below_drewN | apply below_drew1 | refine below_set ?_ GE134.out) | exact HB.out)))); have n1_ := Aside0.mk (blk_below (g := gb134) (o := .cells #[.string a0_0, .int .i64 a0_1, .int .i64 a0_2, .int .i64 a0_3] 37 (0, 0)) (by (with_reducible repeat (first | refine blk_drewN ?_ _ | refine blk_drew ?_ | refine blk_alloc ?_ _)); exact BK134.out) hb); have n2_ := Aside0.mk (below_step (by repeat (first | (with_reducible first | exact HB.out | apply below_alloc | apply pw_below_drewN | apply below_drew1 | refine below_set ?_ GE134.out) | exact HB.out)) hb); clear BK134; clear HB; have HO137 := n0_; have BK134 := n1_; have HB := n2_; clear n0_ n1_ n2_; clear hb ho6))
    go_ret
    exact ⟨_, by first | rfl | (simp [errW_none, errW_some] <;> rfl) | (simp [*, errW_none, errW_some] <;> rfl), by (with_reducible repeat (first | apply Kd.R_alloc | apply Kd.R_drewN | apply Kd.R_drew)); exact HO137.out, by repeat (first | (with_reducible first | exact HB.out | apply below_alloc | apply pw_below_drewN | apply below_drew1 | refine below_set ?_ GE134.out) | exact HB.out)⟩
  · rw [if_neg c2] at H
    have c2b0 : (a0_0.toList == ([111, 110] : List UInt8)) = false := beq_eq_false_iff_ne.mpr c2
    have c2b1 : (a0_0.toList != ([111, 110] : List UInt8)) = true := bne_iff_ne.mpr c2
    by_cases c7 : a0_0.toList = ([111, 102, 102] : List UInt8)
    · rw [if_pos c7] at H
      have c7b0 : (a0_0.toList == ([111, 102, 102] : List UInt8)) = true := beq_iff_eq.mpr c7
      have c7b1 : (a0_0.toList != ([111, 102, 102] : List UInt8)) = false := bne_eq_false_iff_eq.mpr c7
      clear c7
      obtain ⟨y138, hy138⟩ : ∃ y_ : List Int, y_ = (([(128 + ((a0_1) % 256)) % 256, (a0_2) % 256, (a0_3) % 256] : List Int)) := ⟨_, rfl⟩
      replace H : (some y138) = some r := by first | (rw [hy138]; with_reducible exact H) | (have H2_ := (Option.bind_some _ _).symm.trans H; rw [hy138]; with_reducible exact H2_) | (have H2_ := (Option.bind_some _ _).symm.trans H; with_reducible exact H2_) | with_reducible exact H | (rw [hy138]; exact H) | exact H
      have Ny138 := Aside0.mk hy138
      clear hy138
      obtain rfl := Option.some.inj H
      go_enter Try.func33, Try.ntmps33
      go_wp2_with (first | ((with_reducible refine gate_dst (N := 1) rfl ?_); refine box_event ?hg (N := 1) ?hd (cs := #[.string a0_0, .int .i64 a0_1, .int .i64 a0_2, .int .i64 a0_3]) (t := 37) ?hr ?_; (case hd => rfl); (case hg => rfl); (case hr => first | (go_simp; done) | (go_simp; rfl)); intro gb134 hg w8 hbox hb; have n0_ := Aside0.mk (below_step (by repeat (first | (with_reducible first | exact HB.out | apply below_alloc | apply pw_below_drewN | apply below_drew1) | exact HB.out)) hb); have n1_ := Aside0.mk (hbox); have n2_ := Aside0.mk ((by rw [hg]; exact (below_size (by repeat (first | (with_reducible first | exact HB.out | apply below_alloc | apply pw_below_drewN | apply below_drew1) | exact HB.out))) : w.heap.size ≤ gb134)); have n3_ := Aside0.mk ((by rw [hg]; exact (below_size (by repeat (first | (with_reducible first | exact HB.out | apply below_alloc | apply pw_below_drewN | apply below_drew1) | exact HB.out))) : w.heap.size ≤ gb134)); clear HB; have HB := n0_; have BK134 := n1_; have GW134 := n2_; have GE134 := n3_; clear n0_ n1_ n2_ n3_; clear hb hbox hg; have hcz9_0 : w8.cell? ⟨gb134, 0, none⟩ = some (.string a0_0) := (blk_cell BK134.out 0).trans rfl; have hcz9_1 : w8.cell? ⟨gb134, 1, none⟩ = some (.int .i64 a0_1) := (blk_cell BK134.out 1).trans rfl; have hcz9_2 : w8.cell? ⟨gb134, 2, none⟩ = some (.int .i64 a0_2) := (blk_cell BK134.out 2).trans rfl; have hcz9_3 : w8.cell? ⟨gb134, 3, none⟩ = some (.int .i64 a0_3) := (blk_cell BK134.out 3).trans rfl; have hfz9_0 := blk_frozen BK134.out 0; have hfz9_1 := blk_frozen BK134.out 1; have hfz9_2 := blk_frozen BK134.out 2; have hfz9_3 := blk_frozen BK134.out 3) | ((with_reducible refine gate_dst (N := 30) rfl ?_); refine Kd.R_lit (Kd.int .u8) _ 5 ?hg (N := 30) ?hd (xs := ([(128 + ((a0_1) % 256)) % 256, (a0_2) % 256, (a0_3) % 256] : List Int)) (inner := [.int .u8 ((128 + ((a0_1) % 256)) % 256), .int .u8 ((a0_2) % 256), .int .u8 ((a0_3) % 256)]) (ok := fun _ => True) (okp := fun _ => True) ?hr ?hp (fun _ hk => hk) trivial (Below.refl _ _) (Nat.le_refl _) (by simp) ?_; (case hd => rfl); (case hg => rfl); (case hr => first | (go_simp; done) | (go_simp; rfl)); (case hp => exact (Reps.one (show Kd.M (Kd.int .u8) _ _ _ ((128 + ((a0_1) % 256)) % 256) [.int .u8 ((128 + ((a0_1) % 256)) % 256)] from rfl) (Reps.one (show Kd.M (Kd.int .u8) _ _ _ ((a0_2) % 256) [.int .u8 ((a0_2) % 256)] from rfl) (Reps.one (show Kd.M (Kd.int .u8) _ _ _ ((a0_3) % 256) [.int .u8 ((a0_3) % 256)] from rfl) (Reps.none _ _))))); intro v139 w10 ho11 hb hg_ hnew_; clear hg_ hnew_; (first | rw [← Ny138.out] at ho11 | (simp only [Int.reduceToNat] at ho11; rw [← Ny138.out] at ho11)); have n0_ := Aside0.mk (Kd.R_lower ho11 (below_size (by repeat (first | (with_reducible first | exact HB.out | apply below_alloc | apply pw_below_drewN | apply below_drew1 | refine below_set ?_ GE134.out) | exact HB.out)))); have n1_ := Aside0.mk (blk_below (g := gb134) (o := .cells #[.string a0_0, .int .i64 a0_1, .int .i64 a0_2, .int .i64 a0_3] 37 (0, 0)) (by (with_reducible repeat (first | refine blk_drewN ?_ _ | refine blk_drew ?_ | refine blk_alloc ?_ _)); exact BK134.out) hb); have n2_ := Aside0.mk (below_step (by repeat (first | (with_reducible first | exact HB.out | apply below_alloc | apply pw_below_drewN | apply below_drew1 | refine below_set ?_ GE134.out) | exact HB.out)) hb); clear BK134; clear HB; have HO140 := n0_; have BK134 := n1_; have HB := n2_; clear n0_ n1_ n2_; clear hb ho11))
      go_ret
      exact ⟨_, by first | rfl | (simp [errW_none, errW_some] <;> rfl) | (simp [*, errW_none, errW_some] <;> rfl), by (with_reducible repeat (first | apply Kd.R_alloc | apply Kd.R_drewN | apply Kd.R_drew)); exact HO140.out, by repeat (first | (with_reducible first | exact HB.out | apply below_alloc | apply pw_below_drewN | apply below_drew1 | refine below_set ?_ GE134.out) | exact HB.out)⟩
    · rw [if_neg c7] at H
      have c7b0 : (a0_0.toList == ([111, 102, 102] : List UInt8)) = false := beq_eq_false_iff_ne.mpr c7
      have c7b1 : (a0_0.toList != ([111, 102, 102] : List UInt8)) = true := bne_iff_ne.mpr c7
      by_cases c12 : a0_0.toList = ([99, 111, 110, 116, 114, 111, 108] : List UInt8)
      · rw [if_pos c12] at H
        have c12b0 : (a0_0.toList == ([99, 111, 110, 116, 114, 111, 108] : List UInt8)) = true := beq_iff_eq.mpr c12
        have c12b1 : (a0_0.toList != ([99, 111, 110, 116, 114, 111, 108] : List UInt8)) = false := bne_eq_false_iff_eq.mpr c12
        clear c12
        obtain ⟨y141, hy141⟩ : ∃ y_ : List Int, y_ = (([(176 + ((a0_1) % 256)) % 256, (a0_2) % 256, (a0_3) % 256] : List Int)) := ⟨_, rfl⟩
        replace H : (some y141) = some r := by first | (rw [hy141]; with_reducible exact H) | (have H2_ := (Option.bind_some _ _).symm.trans H; rw [hy141]; with_reducible exact H2_) | (have H2_ := (Option.bind_some _ _).symm.trans H; with_reducible exact H2_) | with_reducible exact H | (rw [hy141]; exact H) | exact H
        have Ny141 := Aside0.mk hy141
        clear hy141
        obtain rfl := Option.some.inj H
        go_enter Try.func33, Try.ntmps33
        go_wp2_with (first | ((with_reducible refine gate_dst (N := 1) rfl ?_); refine box_event ?hg (N := 1) ?hd (cs := #[.string a0_0, .int .i64 a0_1, .int .i64 a0_2, .int .i64 a0_3]) (t := 37) ?hr ?_; (case hd => rfl); (case hg => rfl); (case hr => first | (go_simp; done) | (go_simp; rfl)); intro gb134 hg w13 hbox hb; have n0_ := Aside0.mk (below_step (by repeat (first | (with_reducible first | exact HB.out | apply below_alloc | apply pw_below_drewN | apply below_drew1) | exact HB.out)) hb); have n1_ := Aside0.mk (hbox); have n2_ := Aside0.mk ((by rw [hg]; exact (below_size (by repeat (first | (with_reducible first | exact HB.out | apply below_alloc | apply pw_below_drewN | apply below_drew1) | exact HB.out))) : w.heap.size ≤ gb134)); have n3_ := Aside0.mk ((by rw [hg]; exact (below_size (by repeat (first | (with_reducible first | exact HB.out | apply below_alloc | apply pw_below_drewN | apply below_drew1) | exact HB.out))) : w.heap.size ≤ gb134)); clear HB; have HB := n0_; have BK134 := n1_; have GW134 := n2_; have GE134 := n3_; clear n0_ n1_ n2_ n3_; clear hb hbox hg; have hcz14_0 : w13.cell? ⟨gb134, 0, none⟩ = some (.string a0_0) := (blk_cell BK134.out 0).trans rfl; have hcz14_1 : w13.cell? ⟨gb134, 1, none⟩ = some (.int .i64 a0_1) := (blk_cell BK134.out 1).trans rfl; have hcz14_2 : w13.cell? ⟨gb134, 2, none⟩ = some (.int .i64 a0_2) := (blk_cell BK134.out 2).trans rfl; have hcz14_3 : w13.cell? ⟨gb134, 3, none⟩ = some (.int .i64 a0_3) := (blk_cell BK134.out 3).trans rfl; have hfz14_0 := blk_frozen BK134.out 0; have hfz14_1 := blk_frozen BK134.out 1; have hfz14_2 := blk_frozen BK134.out 2; have hfz14_3 := blk_frozen BK134.out 3) | ((with_reducible refine gate_dst (N := 41) rfl ?_); refine Kd.R_lit (Kd.int .u8) _ 5 ?hg (N := 41) ?hd (xs := ([(176 + ((a0_1) % 256)) % 256, (a0_2) % 256, (a0_3) % 256] : List Int)) (inner := [.int .u8 ((176 + ((a0_1) % 256)) % 256), .int .u8 ((a0_2) % 256), .int .u8 ((a0_3) % 256)]) (ok := fun _ => True) (okp := fun _ => True) ?hr ?hp (fun _ hk => hk) trivial (Below.refl _ _) (Nat.le_refl _) (by simp) ?_; (case hd => rfl); (case hg => rfl); (case hr => first | (go_simp; done) | (go_simp; rfl)); (case hp => exact (Reps.one (show Kd.M (Kd.int .u8) _ _ _ ((176 + ((a0_1) % 256)) % 256) [.int .u8 ((176 + ((a0_1) % 256)) % 256)] from rfl) (Reps.one (show Kd.M (Kd.int .u8) _ _ _ ((a0_2) % 256) [.int .u8 ((a0_2) % 256)] from rfl) (Reps.one (show Kd.M (Kd.int .u8) _ _ _ ((a0_3) % 256) [.int .u8 ((a0_3) % 256)] from rfl) (Reps.none _ _))))); intro v142 w15 ho16 hb hg_ hnew_; clear hg_ hnew_; (first | rw [← Ny141.out] at ho16 | (simp only [Int.reduceToNat] at ho16; rw [← Ny141.out] at ho16)); have n0_ := Aside0.mk (Kd.R_lower ho16 (below_size (by repeat (first | (with_reducible first | exact HB.out | apply below_alloc | apply pw_below_drewN | apply below_drew1 | refine below_set ?_ GE134.out) | exact HB.out)))); have n1_ := Aside0.mk (blk_below (g := gb134) (o := .cells #[.string a0_0, .int .i64 a0_1, .int .i64 a0_2, .int .i64 a0_3] 37 (0, 0)) (by (with_reducible repeat (first | refine blk_drewN ?_ _ | refine blk_drew ?_ | refine blk_alloc ?_ _)); exact BK134.out) hb); have n2_ := Aside0.mk (below_step (by repeat (first | (with_reducible first | exact HB.out | apply below_alloc | apply pw_below_drewN | apply below_drew1 | refine below_set ?_ GE134.out) | exact HB.out)) hb); clear BK134; clear HB; have HO143 := n0_; have BK134 := n1_; have HB := n2_; clear n0_ n1_ n2_; clear hb ho16))
        go_ret
        exact ⟨_, by first | rfl | (simp [errW_none, errW_some] <;> rfl) | (simp [*, errW_none, errW_some] <;> rfl), by (with_reducible repeat (first | apply Kd.R_alloc | apply Kd.R_drewN | apply Kd.R_drew)); exact HO143.out, by repeat (first | (with_reducible first | exact HB.out | apply below_alloc | apply pw_below_drewN | apply below_drew1 | refine below_set ?_ GE134.out) | exact HB.out)⟩
      · rw [if_neg c12] at H
        have c12b0 : (a0_0.toList == ([99, 111, 110, 116, 114, 111, 108] : List UInt8)) = false := beq_eq_false_iff_ne.mpr c12
        have c12b1 : (a0_0.toList != ([99, 111, 110, 116, 114, 111, 108] : List UInt8)) = true := bne_iff_ne.mpr c12
        obtain ⟨y144, hy144⟩ : ∃ y_ : List Int, y_ = (([(224 + ((a0_1) % 256)) % 256, (Int.tmod a0_3 128) % 256, (wrap64 (Int.tdiv a0_3 128)) % 256] : List Int)) := ⟨_, rfl⟩
        replace H : (some y144) = some r := by first | (rw [hy144]; with_reducible exact H) | (have H2_ := (Option.bind_some _ _).symm.trans H; rw [hy144]; with_reducible exact H2_) | (have H2_ := (Option.bind_some _ _).symm.trans H; with_reducible exact H2_) | with_reducible exact H | (rw [hy144]; exact H) | exact H
        have Ny144 := Aside0.mk hy144
        clear hy144
        obtain rfl := Option.some.inj H
        go_enter Try.func33, Try.ntmps33
        go_wp2_with (first | ((with_reducible refine gate_dst (N := 1) rfl ?_); refine box_event ?hg (N := 1) ?hd (cs := #[.string a0_0, .int .i64 a0_1, .int .i64 a0_2, .int .i64 a0_3]) (t := 37) ?hr ?_; (case hd => rfl); (case hg => rfl); (case hr => first | (go_simp; done) | (go_simp; rfl)); intro gb134 hg w17 hbox hb; have n0_ := Aside0.mk (below_step (by repeat (first | (with_reducible first | exact HB.out | apply below_alloc | apply pw_below_drewN | apply below_drew1) | exact HB.out)) hb); have n1_ := Aside0.mk (hbox); have n2_ := Aside0.mk ((by rw [hg]; exact (below_size (by repeat (first | (with_reducible first | exact HB.out | apply below_alloc | apply pw_below_drewN | apply below_drew1) | exact HB.out))) : w.heap.size ≤ gb134)); have n3_ := Aside0.mk ((by rw [hg]; exact (below_size (by repeat (first | (with_reducible first | exact HB.out | apply below_alloc | apply pw_below_drewN | apply below_drew1) | exact HB.out))) : w.heap.size ≤ gb134)); clear HB; have HB := n0_; have BK134 := n1_; have GW134 := n2_; have GE134 := n3_; clear n0_ n1_ n2_ n3_; clear hb hbox hg; have hcz18_0 : w17.cell? ⟨gb134, 0, none⟩ = some (.string a0_0) := (blk_cell BK134.out 0).trans rfl; have hcz18_1 : w17.cell? ⟨gb134, 1, none⟩ = some (.int .i64 a0_1) := (blk_cell BK134.out 1).trans rfl; have hcz18_2 : w17.cell? ⟨gb134, 2, none⟩ = some (.int .i64 a0_2) := (blk_cell BK134.out 2).trans rfl; have hcz18_3 : w17.cell? ⟨gb134, 3, none⟩ = some (.int .i64 a0_3) := (blk_cell BK134.out 3).trans rfl; have hfz18_0 := blk_frozen BK134.out 0; have hfz18_1 := blk_frozen BK134.out 1; have hfz18_2 := blk_frozen BK134.out 2; have hfz18_3 := blk_frozen BK134.out 3) | ((with_reducible refine gate_dst (N := 52) rfl ?_); refine Kd.R_lit (Kd.int .u8) _ 5 ?hg (N := 52) ?hd (xs := ([(224 + ((a0_1) % 256)) % 256, (Int.tmod a0_3 128) % 256, (wrap64 (Int.tdiv a0_3 128)) % 256] : List Int)) (inner := [.int .u8 ((224 + ((a0_1) % 256)) % 256), .int .u8 ((Int.tmod a0_3 128) % 256), .int .u8 ((wrap64 (Int.tdiv a0_3 128)) % 256)]) (ok := fun _ => True) (okp := fun _ => True) ?hr ?hp (fun _ hk => hk) trivial (Below.refl _ _) (Nat.le_refl _) (by simp) ?_; (case hd => rfl); (case hg => rfl); (case hr => first | (go_simp; done) | (go_simp; rfl)); (case hp => exact (Reps.one (show Kd.M (Kd.int .u8) _ _ _ ((224 + ((a0_1) % 256)) % 256) [.int .u8 ((224 + ((a0_1) % 256)) % 256)] from rfl) (Reps.one (show Kd.M (Kd.int .u8) _ _ _ ((Int.tmod a0_3 128) % 256) [.int .u8 ((Int.tmod a0_3 128) % 256)] from rfl) (Reps.one (show Kd.M (Kd.int .u8) _ _ _ ((wrap64 (Int.tdiv a0_3 128)) % 256) [.int .u8 ((wrap64 (Int.tdiv a0_3 128)) % 256)] from rfl) (Reps.none _ _))))); intro v145 w19 ho20 hb hg_ hnew_; clear hg_ hnew_; (first | rw [← Ny144.out] at ho20 | (simp only [Int.reduceToNat] at ho20; rw [← Ny144.out] at ho20)); have n0_ := Aside0.mk (Kd.R_lower ho20 (below_size (by repeat (first | (with_reducible first | exact HB.out | apply below_alloc | apply pw_below_drewN | apply below_drew1 | refine below_set ?_ GE134.out) | exact HB.out)))); have n1_ := Aside0.mk (blk_below (g := gb134) (o := .cells #[.string a0_0, .int .i64 a0_1, .int .i64 a0_2, .int .i64 a0_3] 37 (0, 0)) (by (with_reducible repeat (first | refine blk_drewN ?_ _ | refine blk_drew ?_ | refine blk_alloc ?_ _)); exact BK134.out) hb); have n2_ := Aside0.mk (below_step (by repeat (first | (with_reducible first | exact HB.out | apply below_alloc | apply pw_below_drewN | apply below_drew1 | refine below_set ?_ GE134.out) | exact HB.out)) hb); clear BK134; clear HB; have HO146 := n0_; have BK134 := n1_; have HB := n2_; clear n0_ n1_ n2_; clear hb ho20))
        go_ret
        exact ⟨_, by first | rfl | (simp [errW_none, errW_some] <;> rfl) | (simp [*, errW_none, errW_some] <;> rfl), by (with_reducible repeat (first | apply Kd.R_alloc | apply Kd.R_drewN | apply Kd.R_drew)); exact HO146.out, by repeat (first | (with_reducible first | exact HB.out | apply below_alloc | apply pw_below_drewN | apply below_drew1 | refine below_set ?_ GE134.out) | exact HB.out)⟩

end Go.Proofs.Ytlaidcoickeihaa.PMessagesBack
