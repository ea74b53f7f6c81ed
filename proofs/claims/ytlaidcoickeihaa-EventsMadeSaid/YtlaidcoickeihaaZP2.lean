/- Parts of the proof of EventsMade, joined by program out of this session's own texts. -/
import Derived.Test.YtlaidcoickeihaaZP1
set_option linter.unusedVariables false
set_option linter.unusedSimpArgs false
namespace Go.Proofs.Ytlaidcoickeihaa.SEventsMade
open Go.RowKit Go.Proofs.Ytlaidcoickeihaa.Wd.PrintWords Go.Proofs.Ytlaidcoickeihaa.Wd.PrintLast Go.Proofs.Ytlaidcoickeihaa.Wd.PrintMore
attribute [local go_sem] max2_int min2_int max_two min_two max_three min_three max_four min_four
attribute [local go_sem] max2_int min2_int max_two min_two max_three min_three max_four min_four
attribute [local go_sem] max2_int min2_int max_two min_two max_three min_three max_four min_four
attribute [local go_sem high] eqA37
attribute [local go_sem high] eqA77
set_option maxHeartbeats 8000000 in
set_option maxRecDepth 100000 in
theorem serinetteref21_Events.calls (k : Nat) (A0 : Option Addr) (c0 : Nat) (l0 : List (S49)) (A1 : Option Addr) (c1 : Nat) (l1 : List (S37)) (a2 : Int) (r1 : List (S77)) (r2 : Int) (w : World) (hr0 : Kd.C k49 w A0 l0.length l0) (hc0 : l0.length ≤ c0) (hr1 : Kd.C k37 w A1 l1.length l1) (hc1 : l1.length ≤ c1) (h : serinetteref21_Events.f k l0 l1 a2 = some (r1, r2)) :
  Calls Try.prog 23 #[.slice A0 l0.length c0, .slice A1 l1.length c1, .int .i64 a2] w fun e w' => ∃ v0_ : Value, e = .returned (.tuple #[v0_, .int .i64 r2]) ∧ Kd.R k77 77 w' w.heap.size (fun _ => True) v0_ r1 ∧ Below w.heap.size w w' := by
 have hu49 := Try.underlying49
 have hu46 := Try.underlying46
 have hu37 := Try.underlying37
 have hu77 := Try.underlying77
 have HR0 := Aside0.mk hr0
 have HC0 := Aside0.mk hc0
 clear hr0 hc0
 have HR1 := Aside0.mk hr1
 have HC1 := Aside0.mk hc1
 clear hr1 hc1
 have HB := Aside0.mk (Below.refl w.heap.size w)
 have H : (serinetteref21_Events.l0 k l0 l1 a2 l0 (l0.length : Int) 0) = some (r1, r2) := h
 clear h
 have H' := Aside0.mk H
 clear H
 go_enter Try.func23, Try.ntmps23
 go_wp2
 go_loopg [20] k (fun kq v20 w' => ∃ (x20_1 : Int), v20 = .int .i64 x20_1 ∧ Aside0 (serinetteref21_Events.l0 kq l0 l1 a2 l0 (l0.length : Int) x20_1 = some (r1, r2)) ∧ Aside0 (kq ≤ k) ∧ Aside0 (Below w.heap.size w w'))
 case atStart => exact ⟨(0), (by first | rfl | (simp; done) | (simp [*]; done)), H', ⟨Nat.le_refl _⟩, ⟨(bl HB.out)⟩⟩
 case round =>
  clear H'
  (try clear c1); (try clear c2); (try clear p2)
  obtain ⟨x20_1, rfl, HA, HK1, HB⟩ := hrel
  cases gk with
  | zero => exact absurd HA.out (by simp [serinetteref21_Events.l0])
  | succ k1 =>
   have H := HA.out
   clear HA
   simp only [serinetteref21_Events.l0] at H
   by_cases c4 : x20_1 < (l0.length : Int)
   ·
    rw [if_pos c4] at H
    have c4b0 : decide (x20_1 < (l0.length : Int)) = true := decide_eq_true c4
    clear c4
    by_cases c5 : 0 ≤ x20_1
    ·
     rw [if_pos c5] at H
     have c5b0 : decide (0 ≤ x20_1) = true := decide_eq_true c5
     clear c5
     by_cases c6 : x20_1 < (l0.length : Int)
     ·
      rw [if_pos c6] at H
      have c6b0 : decide (x20_1 < (l0.length : Int)) = true := decide_eq_true c6
      clear c6
      have HC7 := Aside0.mk H
      clear H
      have p682 : 0 ≤ (x20_1 : Int) := of_decide_eq_true (by first | (with_reducible assumption) | assumption)
      have q682 : x20_1 < (l0.length : Int) := of_decide_eq_true (by first | (with_reducible assumption) | assumption)
      obtain ⟨ad682, e682, hx682_0, hx682_1, hx682_2, hx682_3, hx682_4, hx682_5, hx682_6, hx682_7, hx682_8⟩ := at_T49 HR0.out x20_1 p682 q682
      cases e682
      replace hx682_0 := (HB.out.cell (World.block_lt_of_cell? w _ hx682_0)).trans hx682_0
      replace hx682_1 := (HB.out.cell (World.block_lt_of_cell? w _ hx682_1)).trans hx682_1
      replace hx682_2 := (HB.out.cell (World.block_lt_of_cell? w _ hx682_2)).trans hx682_2
      replace hx682_3 := (HB.out.cell (World.block_lt_of_cell? w _ hx682_3)).trans hx682_3
      replace hx682_4 := (HB.out.cell (World.block_lt_of_cell? w _ hx682_4)).trans hx682_4
      replace hx682_5 := (HB.out.cell (World.block_lt_of_cell? w _ hx682_5)).trans hx682_5
      replace hx682_6 := (HB.out.cell (World.block_lt_of_cell? w _ hx682_6)).trans hx682_6
      replace hx682_7 := (HB.out.cell (World.block_lt_of_cell? w _ hx682_7)).trans hx682_7
      replace hx682_8 := (HB.out.cell (World.block_lt_of_cell? w _ hx682_8)).trans hx682_8
      replace p682 := eq_true p682
      replace q682 := eq_true q682
      go_upto_region 4 with (first | ((with_reducible refine gate_dst (N := 9) rfl ?_); refine box_event ?hg (N := 9) ?hd (cs := #[.string (⟨#[]⟩ : ByteArray), .int .i64 0, .int .i64 0, .string (⟨#[]⟩ : ByteArray), .int .i64 0, .int .i64 0, .int .i64 0, .int .i64 0, .bool false]) (t := 49) ?hr ?_; (case hd => rfl); (case hg => rfl); (case hr => first | (go_simp; done) | (go_simp; rfl)); intro gb683 hg w8 hbox hb; have BK683 := Aside0.mk (hbox); have GW683 := hz_ hg HB; have GE683 := hz_ hg HB; replace HB := hs HB hb; clear hb hbox hg; obtain ⟨hcz9_0, hcz9_1, hcz9_2, hcz9_3, hcz9_4, hcz9_5, hcz9_6, hcz9_7, hcz9_8⟩ := bc9 BK683.out; obtain ⟨hfz9_0, hfz9_1, hfz9_2, hfz9_3, hfz9_4, hfz9_5, hfz9_6, hfz9_7, hfz9_8⟩ := bf9 BK683.out))
      (try simp only [Act.put, List.setIfInBounds_toArray, List.set_cons_zero, List.set_cons_succ])
      go_cut [10] (fun v10 wc => ∃ (kq : Nat) (x10_6 : Bool), v10 = .bool x10_6 ∧ Aside0 (serinetteref21_Events.j1 kq l0 l1 a2 x10_6 l0 (l0.length : Int) x20_1 ((rd_T49 l0 x20_1).f0) ((rd_T49 l0 x20_1).f1) ((rd_T49 l0 x20_1).f2) ((rd_T49 l0 x20_1).f3) ((rd_T49 l0 x20_1).f4.f0) ((rd_T49 l0 x20_1).f4.f1) ((rd_T49 l0 x20_1).f5.f0) ((rd_T49 l0 x20_1).f5.f1) ((rd_T49 l0 x20_1).f6) = some (r1, r2)) ∧ Aside0 (kq ≤ k1) ∧ Aside0 (wc.heap[gb683]? = some (.cells #[.string ((rd_T49 l0 x20_1).f0), .int .i64 ((rd_T49 l0 x20_1).f1), .int .i64 ((rd_T49 l0 x20_1).f2), .string ((rd_T49 l0 x20_1).f3), .int .i64 ((rd_T49 l0 x20_1).f4.f0), .int .i64 ((rd_T49 l0 x20_1).f4.f1), .int .i64 ((rd_T49 l0 x20_1).f5.f0), .int .i64 ((rd_T49 l0 x20_1).f5.f1), .bool ((rd_T49 l0 x20_1).f6)] 49 (0, 0))) ∧ Aside0 (Below w.heap.size w wc))
      case first =>
       have H := HC7.out
       clear HC7
       by_cases c10 : ((rd_T49 l0 x20_1).f0).toList = ([111, 110] : List UInt8)
       ·
        rw [if_pos c10] at H
        have c10b0 : (((rd_T49 l0 x20_1).f0).toList == ([111, 110] : List UInt8)) = true := beq_iff_eq.mpr c10
        have c10b1 : (((rd_T49 l0 x20_1).f0).toList != ([111, 110] : List UInt8)) = false := bne_eq_false_iff_eq.mpr c10
        clear c10
        (first | rw [c10b0] | (simp only [i64_w, i32_w]; rw [c10b0]) | skip)
        have H' := Aside0.mk H
        clear H
        obtain ⟨hcz11_0, hcz11_1, hcz11_2, hcz11_3, hcz11_4, hcz11_5, hcz11_6, hcz11_7, hcz11_8⟩ := bc9 BK683.out
        obtain ⟨hfz11_0, hfz11_1, hfz11_2, hfz11_3, hfz11_4, hfz11_5, hfz11_6, hfz11_7, hfz11_8⟩ := bf9 BK683.out
        go_wp2
        go_meet
        case rel => exact ⟨_, (true), (by first | rfl | (simp; done) | (simp [*]; done)), H', ⟨by have := HK1.out; first | omega | exact Nat.le_refl _⟩, ⟨by exact rq BK683.out (by rfl)⟩, ⟨by repeat first | (with_reducible exact HB.out) | (with_reducible refine bset ?_ ‹_›) | refine bl1 ?_ | exact HB.out⟩⟩
       ·
        rw [if_neg c10] at H
        have c10b0 : (((rd_T49 l0 x20_1).f0).toList == ([111, 110] : List UInt8)) = false := beq_eq_false_iff_ne.mpr c10
        have c10b1 : (((rd_T49 l0 x20_1).f0).toList != ([111, 110] : List UInt8)) = true := bne_iff_ne.mpr c10
        (first | rw [c10b0] | (simp only [i64_w, i32_w]; rw [c10b0]) | skip)
        by_cases c12 : ((rd_T49 l0 x20_1).f0).toList = ([99, 111, 110, 116, 114, 111, 108] : List UInt8)
        ·
         rw [if_pos c12] at H
         have c12b0 : (((rd_T49 l0 x20_1).f0).toList == ([99, 111, 110, 116, 114, 111, 108] : List UInt8)) = true := beq_iff_eq.mpr c12
         have c12b1 : (((rd_T49 l0 x20_1).f0).toList != ([99, 111, 110, 116, 114, 111, 108] : List UInt8)) = false := bne_eq_false_iff_eq.mpr c12
         clear c12
         have H' := Aside0.mk H
         clear H
         obtain ⟨hcz13_0, hcz13_1, hcz13_2, hcz13_3, hcz13_4, hcz13_5, hcz13_6, hcz13_7, hcz13_8⟩ := bc9 BK683.out
         obtain ⟨hfz13_0, hfz13_1, hfz13_2, hfz13_3, hfz13_4, hfz13_5, hfz13_6, hfz13_7, hfz13_8⟩ := bf9 BK683.out
         go_wp2
         go_meet
         case rel => exact ⟨_, (true), (by first | rfl | (simp; done) | (simp [*]; done)), H', ⟨by have := HK1.out; first | omega | exact Nat.le_refl _⟩, ⟨by exact rq BK683.out (by rfl)⟩, ⟨by repeat first | (with_reducible exact HB.out) | (with_reducible refine bset ?_ ‹_›) | refine bl1 ?_ | exact HB.out⟩⟩
        ·
         rw [if_neg c12] at H
         have c12b0 : (((rd_T49 l0 x20_1).f0).toList == ([99, 111, 110, 116, 114, 111, 108] : List UInt8)) = false := beq_eq_false_iff_ne.mpr c12
         have c12b1 : (((rd_T49 l0 x20_1).f0).toList != ([99, 111, 110, 116, 114, 111, 108] : List UInt8)) = true := bne_iff_ne.mpr c12
         by_cases c14 : ((rd_T49 l0 x20_1).f0).toList = ([98, 101, 110, 100] : List UInt8)
         ·
          rw [if_pos c14] at H
          have c14b0 : (((rd_T49 l0 x20_1).f0).toList == ([98, 101, 110, 100] : List UInt8)) = true := beq_iff_eq.mpr c14
          have c14b1 : (((rd_T49 l0 x20_1).f0).toList != ([98, 101, 110, 100] : List UInt8)) = false := bne_eq_false_iff_eq.mpr c14
          clear c14
          have H' := Aside0.mk H
          clear H
          obtain ⟨hcz15_0, hcz15_1, hcz15_2, hcz15_3, hcz15_4, hcz15_5, hcz15_6, hcz15_7, hcz15_8⟩ := bc9 BK683.out
          obtain ⟨hfz15_0, hfz15_1, hfz15_2, hfz15_3, hfz15_4, hfz15_5, hfz15_6, hfz15_7, hfz15_8⟩ := bf9 BK683.out
          go_wp2
          go_meet
          case rel => exact ⟨_, (true), (by first | rfl | (simp; done) | (simp [*]; done)), H', ⟨by have := HK1.out; first | omega | exact Nat.le_refl _⟩, ⟨by exact rq BK683.out (by rfl)⟩, ⟨by repeat first | (with_reducible exact HB.out) | (with_reducible refine bset ?_ ‹_›) | refine bl1 ?_ | exact HB.out⟩⟩
         ·
          rw [if_neg c14] at H
          have c14b0 : (((rd_T49 l0 x20_1).f0).toList == ([98, 101, 110, 100] : List UInt8)) = false := beq_eq_false_iff_ne.mpr c14
          have c14b1 : (((rd_T49 l0 x20_1).f0).toList != ([98, 101, 110, 100] : List UInt8)) = true := bne_iff_ne.mpr c14
          by_cases c16 : ((rd_T49 l0 x20_1).f0).toList = ([119, 105, 100, 101] : List UInt8)
          ·
           rw [if_pos c16] at H
           have c16b0 : (((rd_T49 l0 x20_1).f0).toList == ([119, 105, 100, 101] : List UInt8)) = true := beq_iff_eq.mpr c16
           have c16b1 : (((rd_T49 l0 x20_1).f0).toList != ([119, 105, 100, 101] : List UInt8)) = false := bne_eq_false_iff_eq.mpr c16
           clear c16
           have H' := Aside0.mk H
           clear H
           obtain ⟨hcz17_0, hcz17_1, hcz17_2, hcz17_3, hcz17_4, hcz17_5, hcz17_6, hcz17_7, hcz17_8⟩ := bc9 BK683.out
           obtain ⟨hfz17_0, hfz17_1, hfz17_2, hfz17_3, hfz17_4, hfz17_5, hfz17_6, hfz17_7, hfz17_8⟩ := bf9 BK683.out
           go_wp2
           go_meet
           case rel => exact ⟨_, (true), (by first | rfl | (simp; done) | (simp [*]; done)), H', ⟨by have := HK1.out; first | omega | exact Nat.le_refl _⟩, ⟨by exact rq BK683.out (by rfl)⟩, ⟨by repeat first | (with_reducible exact HB.out) | (with_reducible refine bset ?_ ‹_›) | refine bl1 ?_ | exact HB.out⟩⟩
          ·
           rw [if_neg c16] at H
           have c16b0 : (((rd_T49 l0 x20_1).f0).toList == ([119, 105, 100, 101] : List UInt8)) = false := beq_eq_false_iff_ne.mpr c16
           have c16b1 : (((rd_T49 l0 x20_1).f0).toList != ([119, 105, 100, 101] : List UInt8)) = true := bne_iff_ne.mpr c16
           have H' := Aside0.mk H
           clear H
           obtain ⟨hcz18_0, hcz18_1, hcz18_2, hcz18_3, hcz18_4, hcz18_5, hcz18_6, hcz18_7, hcz18_8⟩ := bc9 BK683.out
           obtain ⟨hfz18_0, hfz18_1, hfz18_2, hfz18_3, hfz18_4, hfz18_5, hfz18_6, hfz18_7, hfz18_8⟩ := bf9 BK683.out
           go_wp2
           go_meet
           case rel => exact ⟨_, ((((rd_T49 l0 x20_1).f0).toList == ([107, 101, 121] : List UInt8))), (by first | rfl | (simp; done) | (simp [*]; done)), H', ⟨by have := HK1.out; first | omega | exact Nat.le_refl _⟩, ⟨by exact rq BK683.out (by rfl)⟩, ⟨by repeat first | (with_reducible exact HB.out) | (with_reducible refine bset ?_ ‹_›) | refine bl1 ?_ | exact HB.out⟩⟩
      case rest =>
       clear HC7
       (try clear c1); (try clear c2); (try clear p2); (try clear c4); (try clear c4b0); (try clear c5); (try clear c5b0); (try clear c6); (try clear c6b0); (try clear p6); (try clear q6); (try clear hx6); (try clear c10); (try clear c10b0); (try clear c10b1); (try clear c12); (try clear c12b0); (try clear c12b1); (try clear c14); (try clear c14b0); (try clear c14b1); (try clear c16); (try clear c16b0); (try clear c16b1); (try clear hcz11_0); (try clear hcz11_1); (try clear hcz11_2); (try clear hcz11_3); (try clear hcz11_4); (try clear hcz11_5); (try clear hcz11_6); (try clear hcz11_7); (try clear hcz11_8); (try clear hcz13_0); (try clear hcz13_1); (try clear hcz13_2); (try clear hcz13_3); (try clear hcz13_4); (try clear hcz13_5); (try clear hcz13_6); (try clear hcz13_7); (try clear hcz13_8); (try clear hcz15_0); (try clear hcz15_1); (try clear hcz15_2); (try clear hcz15_3); (try clear hcz15_4); (try clear hcz15_5); (try clear hcz15_6); (try clear hcz15_7); (try clear hcz15_8); (try clear hcz17_0); (try clear hcz17_1); (try clear hcz17_2); (try clear hcz17_3); (try clear hcz17_4); (try clear hcz17_5); (try clear hcz17_6); (try clear hcz17_7); (try clear hcz17_8); (try clear hcz18_0); (try clear hcz18_1); (try clear hcz18_2); (try clear hcz18_3); (try clear hcz18_4); (try clear hcz18_5); (try clear hcz18_6); (try clear hcz18_7); (try clear hcz18_8); (try clear hcz9_0); (try clear hcz9_1); (try clear hcz9_2); (try clear hcz9_3); (try clear hcz9_4); (try clear hcz9_5); (try clear hcz9_6); (try clear hcz9_7); (try clear hcz9_8); (try clear hfz11_0); (try clear hfz11_1); (try clear hfz11_2); (try clear hfz11_3); (try clear hfz11_4); (try clear hfz11_5); (try clear hfz11_6); (try clear hfz11_7); (try clear hfz11_8); (try clear hfz13_0); (try clear hfz13_1); (try clear hfz13_2); (try clear hfz13_3); (try clear hfz13_4); (try clear hfz13_5); (try clear hfz13_6); (try clear hfz13_7); (try clear hfz13_8); (try clear hfz15_0); (try clear hfz15_1); (try clear hfz15_2); (try clear hfz15_3); (try clear hfz15_4); (try clear hfz15_5); (try clear hfz15_6); (try clear hfz15_7); (try clear hfz15_8); (try clear hfz17_0); (try clear hfz17_1); (try clear hfz17_2); (try clear hfz17_3); (try clear hfz17_4); (try clear hfz17_5); (try clear hfz17_6); (try clear hfz17_7); (try clear hfz17_8); (try clear hfz18_0); (try clear hfz18_1); (try clear hfz18_2); (try clear hfz18_3); (try clear hfz18_4); (try clear hfz18_5); (try clear hfz18_6); (try clear hfz18_7); (try clear hfz18_8); (try clear hfz9_0); (try clear hfz9_1); (try clear hfz9_2); (try clear hfz9_3); (try clear hfz9_4); (try clear hfz9_5); (try clear hfz9_6); (try clear hfz9_7); (try clear hfz9_8); (try clear hx682_0); (try clear hx682_1); (try clear hx682_2); (try clear hx682_3); (try clear hx682_4); (try clear hx682_5); (try clear hx682_6); (try clear hx682_7); (try clear hx682_8); (try clear p2); (try clear p682); (try clear q682)
       obtain ⟨kq, x10_6, rfl, HA, HJ6, BK683, HB⟩ := hcut
       cases kq with
       | zero => exact absurd HA.out (by simp [serinetteref21_Events.j1])
       | succ kj6 =>
        have H := HA.out
        clear HA
        simp only [serinetteref21_Events.j1] at H
        by_cases c19 : x10_6 = true
        ·
         subst c19
         rw [if_pos rfl] at H
         replace H := Option.bind_eq_some_iff.mp H
         obtain ⟨t684, A200, H⟩ := H
         (try dsimp only at H)
         have A20 := Aside0.mk A200
         clear A200
         by_cases c21 : t684 = true
         ·
          subst c21
          rw [if_pos rfl] at H
          replace H := Option.bind_eq_some_iff.mp H
          obtain ⟨t685, A220, H⟩ := H
          (try dsimp only at H)
          have A22 := Aside0.mk A220
          clear A220
          by_cases c23 : t685 = true
          ·
           subst c23
           rw [if_pos rfl] at H
           have H' := Aside0.mk H
           clear H
           obtain ⟨hcz24_0, hcz24_1, hcz24_2, hcz24_3, hcz24_4, hcz24_5, hcz24_6, hcz24_7, hcz24_8⟩ := bc9 BK683.out
           obtain ⟨hfz24_0, hfz24_1, hfz24_2, hfz24_3, hfz24_4, hfz24_5, hfz24_6, hfz24_7, hfz24_8⟩ := bf9 BK683.out
           go_wp2_with (first | (go_at_call 37; (with_reducible refine (serinetteref01_Is.calls kj6 ((rd_T49 l0 x20_1).f4.f0) ((rd_T49 l0 x20_1).f4.f1) true _ A20.out).mono ?_); rintro e w25 ⟨rfl, hb⟩; replace BK683 := kb BK683 hb; replace HB := Aside0.mk (below_step (by repeat first | (with_reducible exact HB.out) | refine bl1 ?_ | (with_reducible refine bset ?_ ‹_›) | exact HB.out) hb); (try clear hb); (try clear hb2); (try clear hk); (try clear hi); obtain ⟨hcz26_0, hcz26_1, hcz26_2, hcz26_3, hcz26_4, hcz26_5, hcz26_6, hcz26_7, hcz26_8⟩ := bc9 BK683.out; obtain ⟨hfz26_0, hfz26_1, hfz26_2, hfz26_3, hfz26_4, hfz26_5, hfz26_6, hfz26_7, hfz26_8⟩ := bf9 BK683.out) | (go_at_call 37; (with_reducible refine (serinetteref01_Is.calls kj6 ((rd_T49 l0 x20_1).f5.f0) ((rd_T49 l0 x20_1).f5.f1) true _ A22.out).mono ?_); rintro e w27 ⟨rfl, hb⟩; replace BK683 := kb BK683 hb; replace HB := Aside0.mk (below_step (by repeat first | (with_reducible exact HB.out) | refine bl1 ?_ | (with_reducible refine bset ?_ ‹_›) | exact HB.out) hb); (try clear hb); (try clear hb2); (try clear hk); (try clear hi)))
           go_roundg kj6
           case measure => have := HK1.out; have := HJ6.out; omega
           case rel => exact ⟨(wrap64 (x20_1 + 1)), (by first | rfl | (simp; done) | (simp [*]; done)), H', ⟨by have := HK1.out; have := HJ6.out; omega⟩, ⟨by repeat first | (with_reducible exact HB.out) | (with_reducible refine bset ?_ ‹_›) | refine bl1 ?_ | exact HB.out⟩⟩
          ·
           replace c23 := Bool.eq_false_iff.mpr c23
           subst c23
           rw [if_neg (show ¬ (false = true) by decide)] at H
           simp only [Option.some.injEq, Prod.mk.injEq] at H
           obtain ⟨rfl, rfl⟩ := H
           obtain ⟨hcz28_0, hcz28_1, hcz28_2, hcz28_3, hcz28_4, hcz28_5, hcz28_6, hcz28_7, hcz28_8⟩ := bc9 BK683.out
           obtain ⟨hfz28_0, hfz28_1, hfz28_2, hfz28_3, hfz28_4, hfz28_5, hfz28_6, hfz28_7, hfz28_8⟩ := bf9 BK683.out
           go_wp2_with (first | (go_at_call 37; (with_reducible refine (serinetteref01_Is.calls kj6 ((rd_T49 l0 x20_1).f4.f0) ((rd_T49 l0 x20_1).f4.f1) true _ A20.out).mono ?_); rintro e w29 ⟨rfl, hb⟩; replace BK683 := kb BK683 hb; replace HB := Aside0.mk (below_step (by repeat first | (with_reducible exact HB.out) | refine bl1 ?_ | (with_reducible refine bset ?_ ‹_›) | exact HB.out) hb); (try clear hb); (try clear hb2); (try clear hk); (try clear hi); obtain ⟨hcz30_0, hcz30_1, hcz30_2, hcz30_3, hcz30_4, hcz30_5, hcz30_6, hcz30_7, hcz30_8⟩ := bc9 BK683.out; obtain ⟨hfz30_0, hfz30_1, hfz30_2, hfz30_3, hfz30_4, hfz30_5, hfz30_6, hfz30_7, hfz30_8⟩ := bf9 BK683.out) | (go_at_call 37; (with_reducible refine (serinetteref01_Is.calls kj6 ((rd_T49 l0 x20_1).f5.f0) ((rd_T49 l0 x20_1).f5.f1) false _ A22.out).mono ?_); rintro e w31 ⟨rfl, hb⟩; replace BK683 := kb BK683 hb; replace HB := Aside0.mk (below_step (by repeat first | (with_reducible exact HB.out) | refine bl1 ?_ | (with_reducible refine bset ?_ ‹_›) | exact HB.out) hb); (try clear hb); (try clear hb2); (try clear hk); (try clear hi)))
           go_ret2
           exact ⟨_, by first | rfl | (simp [errW_none, errW_some] <;> rfl) | (simp [*, errW_none, errW_some] <;> rfl), by first | exact Kd.R_nil _ _ _ _ _ | exact Kd.N_nil _ _ _ _ _ | exact Kd.V_nil _ _ _ _ _ | exact Kd.Q_nil _ _ _ _ _ | exact Kd.S_nil _ _ _ _ _, by repeat first | (with_reducible exact HB.out) | (with_reducible refine bset ?_ ‹_›) | refine bl1 ?_ | exact HB.out⟩
         ·
          replace c21 := Bool.eq_false_iff.mpr c21
          subst c21
          rw [if_neg (show ¬ (false = true) by decide)] at H
          simp only [Option.some.injEq, Prod.mk.injEq] at H
          obtain ⟨rfl, rfl⟩ := H
          obtain ⟨hcz32_0, hcz32_1, hcz32_2, hcz32_3, hcz32_4, hcz32_5, hcz32_6, hcz32_7, hcz32_8⟩ := bc9 BK683.out
          obtain ⟨hfz32_0, hfz32_1, hfz32_2, hfz32_3, hfz32_4, hfz32_5, hfz32_6, hfz32_7, hfz32_8⟩ := bf9 BK683.out
          go_wp2_with (first | (go_at_call 37; (with_reducible refine (serinetteref01_Is.calls kj6 ((rd_T49 l0 x20_1).f4.f0) ((rd_T49 l0 x20_1).f4.f1) false _ A20.out).mono ?_); rintro e w33 ⟨rfl, hb⟩; replace BK683 := kb BK683 hb; replace HB := Aside0.mk (below_step (by repeat first | (with_reducible exact HB.out) | refine bl1 ?_ | (with_reducible refine bset ?_ ‹_›) | exact HB.out) hb); (try clear hb); (try clear hb2); (try clear hk); (try clear hi)))
          go_ret2
          exact ⟨_, by first | rfl | (simp [errW_none, errW_some] <;> rfl) | (simp [*, errW_none, errW_some] <;> rfl), by first | exact Kd.R_nil _ _ _ _ _ | exact Kd.N_nil _ _ _ _ _ | exact Kd.V_nil _ _ _ _ _ | exact Kd.Q_nil _ _ _ _ _ | exact Kd.S_nil _ _ _ _ _, by repeat first | (with_reducible exact HB.out) | (with_reducible refine bset ?_ ‹_›) | refine bl1 ?_ | exact HB.out⟩
        ·
         replace c19 := Bool.eq_false_iff.mpr c19
         subst c19
         rw [if_neg (show ¬ (false = true) by decide)] at H
         simp only [Option.some.injEq, Prod.mk.injEq] at H
         obtain ⟨rfl, rfl⟩ := H
         go_wp2
         go_ret2
         exact ⟨_, by first | rfl | (simp [errW_none, errW_some] <;> rfl) | (simp [*, errW_none, errW_some] <;> rfl), by first | exact Kd.R_nil _ _ _ _ _ | exact Kd.N_nil _ _ _ _ _ | exact Kd.V_nil _ _ _ _ _ | exact Kd.Q_nil _ _ _ _ _ | exact Kd.S_nil _ _ _ _ _, by repeat first | (with_reducible exact HB.out) | (with_reducible refine bset ?_ ‹_›) | refine bl1 ?_ | exact HB.out⟩
     ·
      rw [if_neg c6] at H
      exact absurd H (by simp)
    ·
     rw [if_neg c5] at H
     exact absurd H (by simp)
   ·
    rw [if_neg c4] at H
    have c4b0 : decide (x20_1 < (l0.length : Int)) = false := decide_eq_false c4
    clear c4
    have H' := Aside0.mk H
    clear H
    go_wp2
    go_loopg [11, 64] k1 (fun kq v11 v64 w' => ∃ (x11_2 : List (S77)) (x64_2 : Int), v64 = .int .i64 x64_2 ∧ Aside0 (serinetteref21_Events.l1 kq l0 a2 x11_2 l1 (l1.length : Int) x64_2 = some (r1, r2)) ∧ Aside0 (kq ≤ k1) ∧ Aside0 (Kd.R k77 77 w' w.heap.size (fun _ => True) v11 x11_2) ∧ Aside0 (Below w.heap.size w w'))
    case atStart => exact ⟨(([] : List (S77))), (0), (by first | rfl | (simp; done) | (simp [*]; done)), H', ⟨Nat.le_refl _⟩, ⟨by first | exact Kd.R_nil _ _ _ _ _ | exact Kd.N_nil _ _ _ _ _ | exact Kd.V_nil _ _ _ _ _ | exact Kd.Q_nil _ _ _ _ _ | exact Kd.S_nil _ _ _ _ _⟩, ⟨(bl HB.out)⟩⟩
    case round =>
     clear H'
     (try clear c1); (try clear c2); (try clear p2); (try clear c4); (try clear c4b0); (try clear c5); (try clear c5b0); (try clear c6); (try clear c6b0); (try clear p6); (try clear q6); (try clear hx6); (try clear c10); (try clear c10b0); (try clear c10b1); (try clear c12); (try clear c12b0); (try clear c12b1); (try clear c14); (try clear c14b0); (try clear c14b1); (try clear c16); (try clear c16b0); (try clear c16b1); (try clear c19); (try clear c21); (try clear c23); (try clear hcz11_0); (try clear hcz11_1); (try clear hcz11_2); (try clear hcz11_3); (try clear hcz11_4); (try clear hcz11_5); (try clear hcz11_6); (try clear hcz11_7); (try clear hcz11_8); (try clear hcz13_0); (try clear hcz13_1); (try clear hcz13_2); (try clear hcz13_3); (try clear hcz13_4); (try clear hcz13_5); (try clear hcz13_6); (try clear hcz13_7); (try clear hcz13_8); (try clear hcz15_0); (try clear hcz15_1); (try clear hcz15_2); (try clear hcz15_3); (try clear hcz15_4); (try clear hcz15_5); (try clear hcz15_6); (try clear hcz15_7); (try clear hcz15_8); (try clear hcz17_0); (try clear hcz17_1); (try clear hcz17_2); (try clear hcz17_3); (try clear hcz17_4); (try clear hcz17_5); (try clear hcz17_6); (try clear hcz17_7); (try clear hcz17_8); (try clear hcz18_0); (try clear hcz18_1); (try clear hcz18_2); (try clear hcz18_3); (try clear hcz18_4); (try clear hcz18_5); (try clear hcz18_6); (try clear hcz18_7); (try clear hcz18_8); (try clear hcz24_0); (try clear hcz24_1); (try clear hcz24_2); (try clear hcz24_3); (try clear hcz24_4); (try clear hcz24_5); (try clear hcz24_6); (try clear hcz24_7); (try clear hcz24_8); (try clear hcz26_0); (try clear hcz26_1); (try clear hcz26_2); (try clear hcz26_3); (try clear hcz26_4); (try clear hcz26_5); (try clear hcz26_6); (try clear hcz26_7); (try clear hcz26_8); (try clear hcz28_0); (try clear hcz28_1); (try clear hcz28_2); (try clear hcz28_3); (try clear hcz28_4); (try clear hcz28_5); (try clear hcz28_6); (try clear hcz28_7); (try clear hcz28_8); (try clear hcz30_0); (try clear hcz30_1); (try clear hcz30_2); (try clear hcz30_3); (try clear hcz30_4); (try clear hcz30_5); (try clear hcz30_6); (try clear hcz30_7); (try clear hcz30_8); (try clear hcz32_0); (try clear hcz32_1); (try clear hcz32_2); (try clear hcz32_3); (try clear hcz32_4); (try clear hcz32_5); (try clear hcz32_6); (try clear hcz32_7); (try clear hcz32_8); (try clear hcz9_0); (try clear hcz9_1); (try clear hcz9_2); (try clear hcz9_3); (try clear hcz9_4); (try clear hcz9_5); (try clear hcz9_6); (try clear hcz9_7); (try clear hcz9_8); (try clear hfz11_0); (try clear hfz11_1); (try clear hfz11_2); (try clear hfz11_3); (try clear hfz11_4); (try clear hfz11_5); (try clear hfz11_6); (try clear hfz11_7); (try clear hfz11_8); (try clear hfz13_0); (try clear hfz13_1); (try clear hfz13_2); (try clear hfz13_3); (try clear hfz13_4); (try clear hfz13_5); (try clear hfz13_6); (try clear hfz13_7); (try clear hfz13_8); (try clear hfz15_0); (try clear hfz15_1); (try clear hfz15_2); (try clear hfz15_3); (try clear hfz15_4); (try clear hfz15_5); (try clear hfz15_6); (try clear hfz15_7); (try clear hfz15_8); (try clear hfz17_0); (try clear hfz17_1); (try clear hfz17_2); (try clear hfz17_3); (try clear hfz17_4); (try clear hfz17_5); (try clear hfz17_6); (try clear hfz17_7); (try clear hfz17_8); (try clear hfz18_0); (try clear hfz18_1); (try clear hfz18_2); (try clear hfz18_3); (try clear hfz18_4); (try clear hfz18_5); (try clear hfz18_6); (try clear hfz18_7); (try clear hfz18_8); (try clear hfz24_0); (try clear hfz24_1); (try clear hfz24_2); (try clear hfz24_3); (try clear hfz24_4); (try clear hfz24_5); (try clear hfz24_6); (try clear hfz24_7); (try clear hfz24_8); (try clear hfz26_0); (try clear hfz26_1); (try clear hfz26_2); (try clear hfz26_3); (try clear hfz26_4); (try clear hfz26_5); (try clear hfz26_6); (try clear hfz26_7); (try clear hfz26_8); (try clear hfz28_0); (try clear hfz28_1); (try clear hfz28_2); (try clear hfz28_3); (try clear hfz28_4); (try clear hfz28_5); (try clear hfz28_6); (try clear hfz28_7); (try clear hfz28_8); (try clear hfz30_0); (try clear hfz30_1); (try clear hfz30_2); (try clear hfz30_3); (try clear hfz30_4); (try clear hfz30_5); (try clear hfz30_6); (try clear hfz30_7); (try clear hfz30_8); (try clear hfz32_0); (try clear hfz32_1); (try clear hfz32_2); (try clear hfz32_3); (try clear hfz32_4); (try clear hfz32_5); (try clear hfz32_6); (try clear hfz32_7); (try clear hfz32_8); (try clear hfz9_0); (try clear hfz9_1); (try clear hfz9_2); (try clear hfz9_3); (try clear hfz9_4); (try clear hfz9_5); (try clear hfz9_6); (try clear hfz9_7); (try clear hfz9_8); (try clear hx682_0); (try clear hx682_1); (try clear hx682_2); (try clear hx682_3); (try clear hx682_4); (try clear hx682_5); (try clear hx682_6); (try clear hx682_7); (try clear hx682_8); (try clear p2); (try clear p6); (try clear p682); (try clear q6); (try clear q682)
     obtain ⟨x11_2, x64_2, rfl, HA, HK2, HO_11, HB⟩ := hrel
     cases gk with
     | zero => exact absurd HA.out (by simp [serinetteref21_Events.l1])
     | succ k2 =>
      have H := HA.out
      clear HA
      simp only [serinetteref21_Events.l1] at H
      by_cases c34 : x64_2 < (l1.length : Int)
      ·
       rw [if_pos c34] at H
       have c34b0 : decide (x64_2 < (l1.length : Int)) = true := decide_eq_true c34
       clear c34
       by_cases c35 : 0 ≤ x64_2
       ·
        rw [if_pos c35] at H
        have c35b0 : decide (0 ≤ x64_2) = true := decide_eq_true c35
        clear c35
        by_cases c36 : x64_2 < (l1.length : Int)
        ·
         rw [if_pos c36] at H
         have c36b0 : decide (x64_2 < (l1.length : Int)) = true := decide_eq_true c36
         clear c36
         have H' := Aside0.mk H
         clear H
         have p686 : 0 ≤ (x64_2 : Int) := of_decide_eq_true (by first | (with_reducible assumption) | assumption)
         have q686 : x64_2 < (l1.length : Int) := of_decide_eq_true (by first | (with_reducible assumption) | assumption)
         obtain ⟨ad686, e686, hx686_0, hx686_1, hx686_2, hx686_3⟩ := at_T37 HR1.out x64_2 p686 q686
         cases e686
         replace hx686_0 := (HB.out.cell (World.block_lt_of_cell? w _ hx686_0)).trans hx686_0
         replace hx686_1 := (HB.out.cell (World.block_lt_of_cell? w _ hx686_1)).trans hx686_1
         replace hx686_2 := (HB.out.cell (World.block_lt_of_cell? w _ hx686_2)).trans hx686_2
         replace hx686_3 := (HB.out.cell (World.block_lt_of_cell? w _ hx686_3)).trans hx686_3
         replace p686 := eq_true p686
         replace q686 := eq_true q686
         go_wp2_with (first | ((with_reducible refine gate_dst (N := 13) rfl ?_); refine box_event ?hg (N := 13) ?hd (cs := #[.string (⟨#[]⟩ : ByteArray), .int .i64 0, .int .i64 0, .int .i64 0]) (t := 37) ?hr ?_; (case hd => rfl); (case hg => rfl); (case hr => first | (go_simp; done) | (go_simp; rfl)); intro gb687 hg w37 hbox hb; have BK687 := Aside0.mk (hbox); have GW687 := hz_ hg HB; have GE687 := hz_ hg HB; replace HO_11 := Aside0.mk (Kd.R_below (by (with_reducible repeat (first | apply Kd.R_alloc | apply Kd.R_drewN | apply Kd.R_drew)); exact HO_11.out) hb); replace HB := hs HB hb; clear hb hbox hg; obtain ⟨hcz38_0, hcz38_1, hcz38_2, hcz38_3⟩ := bc4 BK687.out; obtain ⟨hfz38_0, hfz38_1, hfz38_2, hfz38_3⟩ := bf4 BK687.out))
         go_loopg [11, 70] k2 (fun kq v11 v70 w' => ∃ (x11_3 : List (S77)) (x70_3 : Int), v70 = .int .i64 x70_3 ∧ Aside0 (serinetteref21_Events.l2 kq l0 a2 x11_3 l1 (l1.length : Int) x64_2 l0 (l0.length : Int) x70_3 ((rd_T37 l1 x64_2).f0) ((rd_T37 l1 x64_2).f1) ((rd_T37 l1 x64_2).f2) ((rd_T37 l1 x64_2).f3) = some (r1, r2)) ∧ Aside0 (kq ≤ k2) ∧ Aside0 (Kd.R k77 77 w' w.heap.size (fun _ => True) v11 x11_3) ∧ Aside0 (w'.heap[gb687]? = some (.cells #[.string ((rd_T37 l1 x64_2).f0), .int .i64 ((rd_T37 l1 x64_2).f1), .int .i64 ((rd_T37 l1 x64_2).f2), .int .i64 ((rd_T37 l1 x64_2).f3)] 37 (0, 0))) ∧ Aside0 (Below w.heap.size w w'))
         case atStart => exact ⟨(x11_2), (0), (by first | rfl | (simp; done) | (simp [*]; done)), H', ⟨Nat.le_refl _⟩, ⟨by (with_reducible repeat (first | apply Kd.R_alloc | apply Kd.R_drewN | apply Kd.R_drew)); exact Kd.R_mono (Kd.R_far (p := ⟨gb687, 3, none⟩) (Kd.R_far (p := ⟨gb687, 2, none⟩) (Kd.R_far (p := ⟨gb687, 1, none⟩) (Kd.R_far (p := ⟨gb687, 0, none⟩) (Kd.R_types HO_11.out BK687.out (by decide)) (fun _ hk => hk.2) (.string ((rd_T37 l1 x64_2).f0))) (fun _ hk => hk.2) (.int .i64 ((rd_T37 l1 x64_2).f1))) (fun _ hk => hk.2) (.int .i64 ((rd_T37 l1 x64_2).f2))) (fun _ hk => hk.2) (.int .i64 ((rd_T37 l1 x64_2).f3))) (fun _ hk => trivial)⟩, ⟨by exact rq BK687.out (by rfl)⟩, ⟨by repeat first | (with_reducible exact HB.out) | (with_reducible refine bset ?_ ‹_›) | refine bl1 ?_ | exact HB.out⟩⟩
         case round =>
          clear H'
          (try clear c1); (try clear c2); (try clear p2); (try clear c3); (try clear c4); (try clear c4b0); (try clear c5); (try clear c5b0); (try clear c6); (try clear c6b0); (try clear p6); (try clear q6); (try clear hx6); (try clear c10); (try clear c10b0); (try clear c10b1); (try clear c12); (try clear c12b0); (try clear c12b1); (try clear c14); (try clear c14b0); (try clear c14b1); (try clear c16); (try clear c16b0); (try clear c16b1); (try clear c19); (try clear c21); (try clear c23); (try clear c34); (try clear c34b0); (try clear c35); (try clear c35b0); (try clear c36); (try clear c36b0); (try clear hcz11_0); (try clear hcz11_1); (try clear hcz11_2); (try clear hcz11_3); (try clear hcz11_4); (try clear hcz11_5); (try clear hcz11_6); (try clear hcz11_7); (try clear hcz11_8); (try clear hcz13_0); (try clear hcz13_1); (try clear hcz13_2); (try clear hcz13_3); (try clear hcz13_4); (try clear hcz13_5); (try clear hcz13_6); (try clear hcz13_7); (try clear hcz13_8); (try clear hcz15_0); (try clear hcz15_1); (try clear hcz15_2); (try clear hcz15_3); (try clear hcz15_4); (try clear hcz15_5); (try clear hcz15_6); (try clear hcz15_7); (try clear hcz15_8); (try clear hcz17_0); (try clear hcz17_1); (try clear hcz17_2); (try clear hcz17_3); (try clear hcz17_4); (try clear hcz17_5); (try clear hcz17_6); (try clear hcz17_7); (try clear hcz17_8); (try clear hcz18_0); (try clear hcz18_1); (try clear hcz18_2); (try clear hcz18_3); (try clear hcz18_4); (try clear hcz18_5); (try clear hcz18_6); (try clear hcz18_7); (try clear hcz18_8); (try clear hcz24_0); (try clear hcz24_1); (try clear hcz24_2); (try clear hcz24_3); (try clear hcz24_4); (try clear hcz24_5); (try clear hcz24_6); (try clear hcz24_7); (try clear hcz24_8); (try clear hcz26_0); (try clear hcz26_1); (try clear hcz26_2); (try clear hcz26_3); (try clear hcz26_4); (try clear hcz26_5); (try clear hcz26_6); (try clear hcz26_7); (try clear hcz26_8); (try clear hcz28_0); (try clear hcz28_1); (try clear hcz28_2); (try clear hcz28_3); (try clear hcz28_4); (try clear hcz28_5); (try clear hcz28_6); (try clear hcz28_7); (try clear hcz28_8); (try clear hcz30_0); (try clear hcz30_1); (try clear hcz30_2); (try clear hcz30_3); (try clear hcz30_4); (try clear hcz30_5); (try clear hcz30_6); (try clear hcz30_7); (try clear hcz30_8); (try clear hcz32_0); (try clear hcz32_1); (try clear hcz32_2); (try clear hcz32_3); (try clear hcz32_4); (try clear hcz32_5); (try clear hcz32_6); (try clear hcz32_7); (try clear hcz32_8); (try clear hcz38_0); (try clear hcz38_1); (try clear hcz38_2); (try clear hcz38_3); (try clear hcz9_0); (try clear hcz9_1); (try clear hcz9_2); (try clear hcz9_3); (try clear hcz9_4); (try clear hcz9_5); (try clear hcz9_6); (try clear hcz9_7); (try clear hcz9_8); (try clear hfz11_0); (try clear hfz11_1); (try clear hfz11_2); (try clear hfz11_3); (try clear hfz11_4); (try clear hfz11_5); (try clear hfz11_6); (try clear hfz11_7); (try clear hfz11_8); (try clear hfz13_0); (try clear hfz13_1); (try clear hfz13_2); (try clear hfz13_3); (try clear hfz13_4); (try clear hfz13_5); (try clear hfz13_6); (try clear hfz13_7); (try clear hfz13_8); (try clear hfz15_0); (try clear hfz15_1); (try clear hfz15_2); (try clear hfz15_3); (try clear hfz15_4); (try clear hfz15_5); (try clear hfz15_6); (try clear hfz15_7); (try clear hfz15_8); (try clear hfz17_0); (try clear hfz17_1); (try clear hfz17_2); (try clear hfz17_3); (try clear hfz17_4); (try clear hfz17_5); (try clear hfz17_6); (try clear hfz17_7); (try clear hfz17_8); (try clear hfz18_0); (try clear hfz18_1); (try clear hfz18_2); (try clear hfz18_3); (try clear hfz18_4); (try clear hfz18_5); (try clear hfz18_6); (try clear hfz18_7); (try clear hfz18_8); (try clear hfz24_0); (try clear hfz24_1); (try clear hfz24_2); (try clear hfz24_3); (try clear hfz24_4); (try clear hfz24_5); (try clear hfz24_6); (try clear hfz24_7); (try clear hfz24_8); (try clear hfz26_0); (try clear hfz26_1); (try clear hfz26_2); (try clear hfz26_3); (try clear hfz26_4); (try clear hfz26_5); (try clear hfz26_6); (try clear hfz26_7); (try clear hfz26_8); (try clear hfz28_0); (try clear hfz28_1); (try clear hfz28_2); (try clear hfz28_3); (try clear hfz28_4); (try clear hfz28_5); (try clear hfz28_6); (try clear hfz28_7); (try clear hfz28_8); (try clear hfz30_0); (try clear hfz30_1); (try clear hfz30_2); (try clear hfz30_3); (try clear hfz30_4); (try clear hfz30_5); (try clear hfz30_6); (try clear hfz30_7); (try clear hfz30_8); (try clear hfz32_0); (try clear hfz32_1); (try clear hfz32_2); (try clear hfz32_3); (try clear hfz32_4); (try clear hfz32_5); (try clear hfz32_6); (try clear hfz32_7); (try clear hfz32_8); (try clear hfz38_0); (try clear hfz38_1); (try clear hfz38_2); (try clear hfz38_3); (try clear hfz9_0); (try clear hfz9_1); (try clear hfz9_2); (try clear hfz9_3); (try clear hfz9_4); (try clear hfz9_5); (try clear hfz9_6); (try clear hfz9_7); (try clear hfz9_8); (try clear hx682_0); (try clear hx682_1); (try clear hx682_2); (try clear hx682_3); (try clear hx682_4); (try clear hx682_5); (try clear hx682_6); (try clear hx682_7); (try clear hx682_8); (try clear hx686_0); (try clear hx686_1); (try clear hx686_2); (try clear hx686_3); (try clear p2); (try clear p6); (try clear p682); (try clear p686); (try clear q6); (try clear q682); (try clear q686)
          obtain ⟨x11_3, x70_3, rfl, HA, HK3, HO_11, BK687, HB⟩ := hrel
          cases gk with
          | zero => exact absurd HA.out (by simp [serinetteref21_Events.l2])
          | succ k3 =>
           have H := HA.out
           clear HA
           simp only [serinetteref21_Events.l2] at H
           by_cases c39 : x70_3 < (l0.length : Int)
           ·
            rw [if_pos c39] at H
            have c39b0 : decide (x70_3 < (l0.length : Int)) = true := decide_eq_true c39
            clear c39
            by_cases c40 : 0 ≤ x70_3
            ·
             rw [if_pos c40] at H
             have c40b0 : decide (0 ≤ x70_3) = true := decide_eq_true c40
             clear c40
             by_cases c41 : x70_3 < (l0.length : Int)
             ·
              rw [if_pos c41] at H
              have c41b0 : decide (x70_3 < (l0.length : Int)) = true := decide_eq_true c41
              clear c41
              replace H := Option.bind_eq_some_iff.mp H
              obtain ⟨t690, A420, H⟩ := H
              (try dsimp only at H)
              have A42 := Aside0.mk A420
              clear A420
              by_cases c43 : t690 = true
              ·
               subst c43
               rw [if_pos rfl] at H
               replace H := Option.bind_eq_some_iff.mp H
               obtain ⟨⟨t691, t692, t693⟩, A440, H⟩ := H
               (try dsimp only at H)
               have A44 := Aside0.mk A440
               clear A440
               by_cases c45 : t693 = true
               ·
                subst c45
                rw [if_pos rfl] at H
                by_cases c46 : x11_3.length < 3518437208883
                ·
                 rw [if_pos c46] at H
                 have LMc46 := Aside0.mk c46
                 clear c46
                 obtain ⟨y695, hy695⟩ : ∃ y_ : List (S77), y_ = (x11_3 ++ [(⟨a2, (rd_T49 l0 x70_3).f3, (⟨t691, t692⟩ : S46)⟩ : S77)]) := ⟨_, rfl⟩
                 replace H : (serinetteref21_Events.l2 k3 l0 a2 y695 l1 (l1.length : Int) x64_2 l0 (l0.length : Int) (wrap64 (x70_3 + 1)) ((rd_T37 l1 x64_2).f0) ((rd_T37 l1 x64_2).f1) ((rd_T37 l1 x64_2).f2) ((rd_T37 l1 x64_2).f3)) = some (r1, r2) := by first | (rw [hy695]; with_reducible exact H) | (have H2_ := (Option.bind_some _ _).symm.trans H; rw [hy695]; with_reducible exact H2_) | (have H2_ := (Option.bind_some _ _).symm.trans H; with_reducible exact H2_) | with_reducible exact H | (rw [hy695]; exact H) | exact H
                 have Ny695 := Aside0.mk hy695
                 clear hy695
                 have H' := Aside0.mk H
                 clear H
                 have p688 : 0 ≤ (x70_3 : Int) := of_decide_eq_true (by first | (with_reducible assumption) | assumption)
                 have q688 : x70_3 < (l0.length : Int) := of_decide_eq_true (by first | (with_reducible assumption) | assumption)
                 obtain ⟨ad688, e688, hx688_0, hx688_1, hx688_2, hx688_3, hx688_4, hx688_5, hx688_6, hx688_7, hx688_8⟩ := at_T49 HR0.out x70_3 p688 q688
                 cases e688
                 replace hx688_0 := (HB.out.cell (World.block_lt_of_cell? w _ hx688_0)).trans hx688_0
                 replace hx688_1 := (HB.out.cell (World.block_lt_of_cell? w _ hx688_1)).trans hx688_1
                 replace hx688_2 := (HB.out.cell (World.block_lt_of_cell? w _ hx688_2)).trans hx688_2
                 replace hx688_3 := (HB.out.cell (World.block_lt_of_cell? w _ hx688_3)).trans hx688_3
                 replace hx688_4 := (HB.out.cell (World.block_lt_of_cell? w _ hx688_4)).trans hx688_4
                 replace hx688_5 := (HB.out.cell (World.block_lt_of_cell? w _ hx688_5)).trans hx688_5
                 replace hx688_6 := (HB.out.cell (World.block_lt_of_cell? w _ hx688_6)).trans hx688_6
                 replace hx688_7 := (HB.out.cell (World.block_lt_of_cell? w _ hx688_7)).trans hx688_7
                 replace hx688_8 := (HB.out.cell (World.block_lt_of_cell? w _ hx688_8)).trans hx688_8
                 replace p688 := eq_true p688
                 replace q688 := eq_true q688
                 go_wp2_with (first | ((with_reducible refine gate_dst (N := 15) rfl ?_); refine box_event ?hg (N := 15) ?hd (cs := #[.string (⟨#[]⟩ : ByteArray), .int .i64 0, .int .i64 0, .string (⟨#[]⟩ : ByteArray), .int .i64 0, .int .i64 0, .int .i64 0, .int .i64 0, .bool false]) (t := 49) ?hr ?_; (case hd => rfl); (case hg => rfl); (case hr => first | (go_simp; done) | (go_simp; rfl)); intro gb689 hg w47 hbox hb; have BK689 := Aside0.mk (hbox); have GW689 := Aside0.mk ((by rw [hg]; exact (below_size (by repeat first | (with_reducible exact HB.out) | refine bl1 ?_ | (with_reducible refine bset ?_ ‹_›) | exact HB.out)) : w.heap.size ≤ gb689)); have GE689 := Aside0.mk ((by rw [hg]; exact (below_size (by repeat first | (with_reducible exact HB.out) | refine bl1 ?_ | (with_reducible refine bset ?_ ‹_›) | exact HB.out)) : w.heap.size ≤ gb689)); have NB687_689 := nlk hg BK687; have NB689_687 := ngk hg BK687; replace HO_11 := Aside0.mk (Kd.R_below (by (with_reducible repeat (first | apply Kd.R_alloc | apply Kd.R_drewN | apply Kd.R_drew)); exact HO_11.out) hb); replace BK687 := kb BK687 hb; replace HB := Aside0.mk (below_step (by repeat first | (with_reducible exact HB.out) | refine bl1 ?_ | (with_reducible refine bset ?_ ‹_›) | exact HB.out) hb); clear hb hbox hg; have hnb48 := NB689_687.out; have hnc48 := NB687_689.out; obtain ⟨hcz49_0, hcz49_1, hcz49_2, hcz49_3, hcz49_4, hcz49_5, hcz49_6, hcz49_7, hcz49_8⟩ := bc9 BK689.out; obtain ⟨hfz49_0, hfz49_1, hfz49_2, hfz49_3, hfz49_4, hfz49_5, hfz49_6, hfz49_7, hfz49_8⟩ := bf9 BK689.out; obtain ⟨hcz50_0, hcz50_1, hcz50_2, hcz50_3⟩ := bc4 BK687.out; obtain ⟨hfz50_0, hfz50_1, hfz50_2, hfz50_3⟩ := bf4 BK687.out) | ((with_reducible refine gate_callee (f := 38) rfl ?_); refine goesL_ (some 76) rfl rfl Try.func38 (by kernel_rfl) rfl #[.agg #[.string ((rd_T49 l0 x70_3).f0), .int .i64 ((rd_T49 l0 x70_3).f1), .int .i64 ((rd_T49 l0 x70_3).f2), .string ((rd_T49 l0 x70_3).f3), .int .i64 ((rd_T49 l0 x70_3).f4.f0), .int .i64 ((rd_T49 l0 x70_3).f4.f1), .int .i64 ((rd_T49 l0 x70_3).f5.f0), .int .i64 ((rd_T49 l0 x70_3).f5.f1), .bool ((rd_T49 l0 x70_3).f6)], .agg #[.string ((rd_T37 l1 x64_2).f0), .int .i64 ((rd_T37 l1 x64_2).f1), .int .i64 ((rd_T37 l1 x64_2).f2), .int .i64 ((rd_T37 l1 x64_2).f3)]] rfl (by (try simp only [mp]); first | done | rfl | (simp only [ld]; rfl)) ?_; (with_reducible refine (serinetteref21_fits.calls ((rd_T49 l0 x70_3).f0) ((rd_T49 l0 x70_3).f1) ((rd_T49 l0 x70_3).f2) ((rd_T49 l0 x70_3).f3) ((rd_T49 l0 x70_3).f4.f0) ((rd_T49 l0 x70_3).f4.f1) ((rd_T49 l0 x70_3).f5.f0) ((rd_T49 l0 x70_3).f5.f1) ((rd_T49 l0 x70_3).f6) ((rd_T37 l1 x64_2).f0) ((rd_T37 l1 x64_2).f1) ((rd_T37 l1 x64_2).f2) ((rd_T37 l1 x64_2).f3) true _ A42.out).mono ?_); rintro e w51 ⟨rfl, hb⟩; refine ⟨_, rfl, ?_⟩; replace HO_11 := Aside0.mk (Kd.R_below (by (with_reducible repeat (first | apply Kd.R_alloc | apply Kd.R_drewN | apply Kd.R_drew)); exact (Kd.R_mono (Kd.R_far (p := ⟨gb689, 8, none⟩) (Kd.R_far (p := ⟨gb689, 7, none⟩) (Kd.R_far (p := ⟨gb689, 6, none⟩) (Kd.R_far (p := ⟨gb689, 5, none⟩) (Kd.R_far (p := ⟨gb689, 4, none⟩) (Kd.R_far (p := ⟨gb689, 3, none⟩) (Kd.R_far (p := ⟨gb689, 2, none⟩) (Kd.R_far (p := ⟨gb689, 1, none⟩) (Kd.R_far (p := ⟨gb689, 0, none⟩) (Kd.R_types HO_11.out BK689.out (by decide)) (fun _ hk => hk.2) (.string ((rd_T49 l0 x70_3).f0))) (fun _ hk => hk.2) (.int .i64 ((rd_T49 l0 x70_3).f1))) (fun _ hk => hk.2) (.int .i64 ((rd_T49 l0 x70_3).f2))) (fun _ hk => hk.2) (.string ((rd_T49 l0 x70_3).f3))) (fun _ hk => hk.2) (.int .i64 ((rd_T49 l0 x70_3).f4.f0))) (fun _ hk => hk.2) (.int .i64 ((rd_T49 l0 x70_3).f4.f1))) (fun _ hk => hk.2) (.int .i64 ((rd_T49 l0 x70_3).f5.f0))) (fun _ hk => hk.2) (.int .i64 ((rd_T49 l0 x70_3).f5.f1))) (fun _ hk => hk.2) (.bool ((rd_T49 l0 x70_3).f6))) (fun _ h_ => h_.1))) hb); replace BK687 := Aside0.mk (blk_below (g := gb687) (o := .cells #[.string ((rd_T37 l1 x64_2).f0), .int .i64 ((rd_T37 l1 x64_2).f1), .int .i64 ((rd_T37 l1 x64_2).f2), .int .i64 ((rd_T37 l1 x64_2).f3)] 37 (0, 0)) (by refine bk ?_; refine blk_far ?_ NB687_689.out _; refine bk ?_; refine blk_far ?_ NB687_689.out _; refine bk ?_; refine blk_far ?_ NB687_689.out _; refine bk ?_; refine blk_far ?_ NB687_689.out _; refine bk ?_; refine blk_far ?_ NB687_689.out _; refine bk ?_; refine blk_far ?_ NB687_689.out _; refine bk ?_; refine blk_far ?_ NB687_689.out _; refine bk ?_; refine blk_far ?_ NB687_689.out _; refine bk ?_; refine blk_far ?_ NB687_689.out _; refine bk ?_; exact BK687.out) hb); replace BK689 := Aside0.mk (blk_below (g := gb689) (o := .cells #[.string ((rd_T49 l0 x70_3).f0), .int .i64 ((rd_T49 l0 x70_3).f1), .int .i64 ((rd_T49 l0 x70_3).f2), .string ((rd_T49 l0 x70_3).f3), .int .i64 ((rd_T49 l0 x70_3).f4.f0), .int .i64 ((rd_T49 l0 x70_3).f4.f1), .int .i64 ((rd_T49 l0 x70_3).f5.f0), .int .i64 ((rd_T49 l0 x70_3).f5.f1), .bool ((rd_T49 l0 x70_3).f6)] 49 (0, 0)) (by exact rq BK689.out (by rfl)) hb); replace HB := Aside0.mk (below_step (by repeat first | (with_reducible exact HB.out) | refine bl1 ?_ | (with_reducible refine bset ?_ ‹_›) | exact HB.out) hb); (try clear hb); (try clear hb2); (try clear hk); (try clear hi); obtain ⟨hcz52_0, hcz52_1, hcz52_2, hcz52_3, hcz52_4, hcz52_5, hcz52_6, hcz52_7, hcz52_8⟩ := bc9 BK689.out; obtain ⟨hfz52_0, hfz52_1, hfz52_2, hfz52_3, hfz52_4, hfz52_5, hfz52_6, hfz52_7, hfz52_8⟩ := bf9 BK689.out; obtain ⟨hcz53_0, hcz53_1, hcz53_2, hcz53_3⟩ := bc4 BK687.out; obtain ⟨hfz53_0, hfz53_1, hfz53_2, hfz53_3⟩ := bf4 BK687.out) | ((with_reducible refine gate_callee (f := 39) rfl ?_); refine goesL_ (some 81) rfl rfl Try.func39 (by kernel_rfl) rfl #[.agg #[.string ((rd_T49 l0 x70_3).f0), .int .i64 ((rd_T49 l0 x70_3).f1), .int .i64 ((rd_T49 l0 x70_3).f2), .string ((rd_T49 l0 x70_3).f3), .int .i64 ((rd_T49 l0 x70_3).f4.f0), .int .i64 ((rd_T49 l0 x70_3).f4.f1), .int .i64 ((rd_T49 l0 x70_3).f5.f0), .int .i64 ((rd_T49 l0 x70_3).f5.f1), .bool ((rd_T49 l0 x70_3).f6)], .agg #[.string ((rd_T37 l1 x64_2).f0), .int .i64 ((rd_T37 l1 x64_2).f1), .int .i64 ((rd_T37 l1 x64_2).f2), .int .i64 ((rd_T37 l1 x64_2).f3)]] rfl (by (try simp only [mp]); first | done | rfl | (simp only [ld]; rfl)) ?_; (with_reducible refine (serinetteref21_value.calls ((rd_T49 l0 x70_3).f0) ((rd_T49 l0 x70_3).f1) ((rd_T49 l0 x70_3).f2) ((rd_T49 l0 x70_3).f3) ((rd_T49 l0 x70_3).f4.f0) ((rd_T49 l0 x70_3).f4.f1) ((rd_T49 l0 x70_3).f5.f0) ((rd_T49 l0 x70_3).f5.f1) ((rd_T49 l0 x70_3).f6) ((rd_T37 l1 x64_2).f0) ((rd_T37 l1 x64_2).f1) ((rd_T37 l1 x64_2).f2) ((rd_T37 l1 x64_2).f3) t691 t692 true _ A44.out).mono ?_); rintro e w54 ⟨rfl, hb⟩; refine ⟨_, rfl, ?_⟩; replace HO_11 := Aside0.mk (Kd.R_below (by (with_reducible repeat (first | apply Kd.R_alloc | apply Kd.R_drewN | apply Kd.R_drew)); exact HO_11.out) hb); replace BK687 := kb BK687 hb; replace BK689 := kb BK689 hb; replace HB := Aside0.mk (below_step (by repeat first | (with_reducible exact HB.out) | refine bl1 ?_ | (with_reducible refine bset ?_ ‹_›) | exact HB.out) hb); (try clear hb); (try clear hb2); (try clear hk); (try clear hi)) | ((with_reducible refine gate_dst (N := 16) rfl ?_); refine box_event ?hg (N := 16) ?hd (cs := #[.int .i64 0, .int .i64 0]) (t := 46) ?hr ?_; (case hd => rfl); (case hg => rfl); (case hr => first | (go_simp; done) | (go_simp; rfl)); intro gb694 hg w55 hbox hb; have BK694 := Aside0.mk (hbox); have GW694 := Aside0.mk ((by rw [hg]; exact (below_size (by repeat first | (with_reducible exact HB.out) | refine bl1 ?_ | (with_reducible refine bset ?_ ‹_›) | exact HB.out)) : w.heap.size ≤ gb694)); have GE694 := Aside0.mk ((by rw [hg]; exact (below_size (by repeat first | (with_reducible exact HB.out) | refine bl1 ?_ | (with_reducible refine bset ?_ ‹_›) | exact HB.out)) : w.heap.size ≤ gb694)); have NB687_694 := nlk hg BK687; have NB694_687 := ngk hg BK687; have NB689_694 := nlk hg BK689; have NB694_689 := ngk hg BK689; replace HO_11 := Aside0.mk (Kd.R_below (by (with_reducible repeat (first | apply Kd.R_alloc | apply Kd.R_drewN | apply Kd.R_drew)); exact HO_11.out) hb); replace BK687 := kb BK687 hb; replace BK689 := kb BK689 hb; replace HB := Aside0.mk (below_step (by repeat first | (with_reducible exact HB.out) | refine bl1 ?_ | (with_reducible refine bset ?_ ‹_›) | exact HB.out) hb); clear hb hbox hg; have hnb56 := NB694_687.out; have hnc56 := NB687_694.out; have hnb57 := NB694_689.out; have hnc57 := NB689_694.out; obtain ⟨hcz58_0, hcz58_1⟩ := bc2 BK694.out; obtain ⟨hfz58_0, hfz58_1⟩ := bf2 BK694.out; obtain ⟨hcz59_0, hcz59_1, hcz59_2, hcz59_3, hcz59_4, hcz59_5, hcz59_6, hcz59_7, hcz59_8⟩ := bc9 BK689.out; obtain ⟨hfz59_0, hfz59_1, hfz59_2, hfz59_3, hfz59_4, hfz59_5, hfz59_6, hfz59_7, hfz59_8⟩ := bf9 BK689.out) | ((with_reducible refine gate_builtin (b := .append) (xs := #[.tmp 85, .tmp 91]) rfl ?_); at_builtin; refine Kd.R_append k77 (w0 := w) w.heap.size rfl (.tmp 85) (.tmp 91) 50 77 (.agg #[(.int .i64 0), (.string ⟨#[]⟩), (.int .i64 0), (.int .i64 0)]) 40 rfl Try.underlying50 info77 rfl (by decide) (by omega) u11 x11_3 (⟨a2, (rd_T49 l0 x70_3).f3, (⟨t691, t692⟩ : S46)⟩ : S77) [.int .i64 a2, .string ((rd_T49 l0 x70_3).f3), .int .i64 t691, .int .i64 t692] (fun _ => True) (fun _ => False) rfl (by first | (go_simp; done) | (go_simp; rfl)) ?aP (fun _ hk => hk.elim) ?aF ?aO ?aB ?aS ?aL ?_; (case aP => exact k77_mkM _ _ _ (⟨a2, (rd_T49 l0 x70_3).f3, (⟨t691, t692⟩ : S46)⟩ : S77)); (case aB => exact (by repeat first | (with_reducible exact HB.out) | refine bl1 ?_ | (with_reducible refine bset ?_ ‹_›) | exact HB.out)); (case aF => exact (fun _ _ => trivial)); (case aO => exact (by (with_reducible repeat (first | apply Kd.R_alloc | apply Kd.R_drewN | apply Kd.R_drew)); exact Kd.R_mono (Kd.R_far (p := ⟨gb694, 1, none⟩) (Kd.R_far (p := ⟨gb694, 0, none⟩) (Kd.R_types HO_11.out BK694.out (by decide)) (fun _ hk => hk.2) (.int .i64 t691)) (fun _ hk => hk.2) (.int .i64 t692)) (fun _ hk => trivial))); (case aS => exact (below_size (by repeat first | (with_reducible exact HB.out) | refine bl1 ?_ | (with_reducible refine bset ?_ ‹_›) | exact HB.out))); (case aL => have := LMc46.out; omega); intro v696 w60 ho hb hg hat; rw [← Ny695.out] at ho; have HO697 := Aside0.mk (ho); replace BK687 := Aside0.mk (blk_grown (g := gb687) (o := .cells #[.string ((rd_T37 l1 x64_2).f0), .int .i64 ((rd_T37 l1 x64_2).f1), .int .i64 ((rd_T37 l1 x64_2).f2), .int .i64 ((rd_T37 l1 x64_2).f3)] 37 (0, 0)) (by refine bk ?_; refine blk_far ?_ NB687_694.out _; refine bk ?_; refine blk_far ?_ NB687_694.out _; refine bk ?_; exact BK687.out) hg (Kd.R_ne HO_11.out BK687.out (by decide))); replace BK689 := Aside0.mk (blk_grown (g := gb689) (o := .cells #[.string ((rd_T49 l0 x70_3).f0), .int .i64 ((rd_T49 l0 x70_3).f1), .int .i64 ((rd_T49 l0 x70_3).f2), .string ((rd_T49 l0 x70_3).f3), .int .i64 ((rd_T49 l0 x70_3).f4.f0), .int .i64 ((rd_T49 l0 x70_3).f4.f1), .int .i64 ((rd_T49 l0 x70_3).f5.f0), .int .i64 ((rd_T49 l0 x70_3).f5.f1), .bool ((rd_T49 l0 x70_3).f6)] 49 (0, 0)) (by refine bk ?_; refine blk_far ?_ NB689_694.out _; refine bk ?_; refine blk_far ?_ NB689_694.out _; refine bk ?_; exact BK689.out) hg (Kd.R_ne HO_11.out BK689.out (by decide))); replace BK694 := Aside0.mk (blk_grown (g := gb694) (o := .cells #[.int .i64 t691, .int .i64 t692] 46 (0, 0)) (by exact rq BK694.out (by rfl)) hg (Kd.R_ne HO_11.out BK694.out (by decide))); replace HB := Aside0.mk (hb); clear HO_11; clear ho hb hg hat))
                 go_roundg k3
                 case measure => have := HK1.out; have := HK2.out; have := HK3.out; omega
                 case rel => exact ⟨(y695), (wrap64 (x70_3 + 1)), (by first | rfl | (simp; done) | (simp [*]; done)), H', ⟨by have := HK1.out; have := HK2.out; have := HK3.out; omega⟩, ⟨by (with_reducible repeat (first | apply Kd.R_alloc | apply Kd.R_drewN | apply Kd.R_drew)); exact HO697.out⟩, ⟨by refine bk ?_; exact BK687.out⟩, ⟨by repeat first | (with_reducible exact HB.out) | (with_reducible refine bset ?_ ‹_›) | refine bl1 ?_ | exact HB.out⟩⟩
                ·
                 rw [if_neg c46] at H
                 exact absurd H (by simp)
               ·
                replace c45 := Bool.eq_false_iff.mpr c45
                subst c45
                rw [if_neg (show ¬ (false = true) by decide)] at H
                have H' := Aside0.mk H
                clear H
                have p688 : 0 ≤ (x70_3 : Int) := of_decide_eq_true (by first | (with_reducible assumption) | assumption)
                have q688 : x70_3 < (l0.length : Int) := of_decide_eq_true (by first | (with_reducible assumption) | assumption)
                obtain ⟨ad688, e688, hx688_0, hx688_1, hx688_2, hx688_3, hx688_4, hx688_5, hx688_6, hx688_7, hx688_8⟩ := at_T49 HR0.out x70_3 p688 q688
                cases e688
                replace hx688_0 := (HB.out.cell (World.block_lt_of_cell? w _ hx688_0)).trans hx688_0
                replace hx688_1 := (HB.out.cell (World.block_lt_of_cell? w _ hx688_1)).trans hx688_1
                replace hx688_2 := (HB.out.cell (World.block_lt_of_cell? w _ hx688_2)).trans hx688_2
                replace hx688_3 := (HB.out.cell (World.block_lt_of_cell? w _ hx688_3)).trans hx688_3
                replace hx688_4 := (HB.out.cell (World.block_lt_of_cell? w _ hx688_4)).trans hx688_4
                replace hx688_5 := (HB.out.cell (World.block_lt_of_cell? w _ hx688_5)).trans hx688_5
                replace hx688_6 := (HB.out.cell (World.block_lt_of_cell? w _ hx688_6)).trans hx688_6
                replace hx688_7 := (HB.out.cell (World.block_lt_of_cell? w _ hx688_7)).trans hx688_7
                replace hx688_8 := (HB.out.cell (World.block_lt_of_cell? w _ hx688_8)).trans hx688_8
                replace p688 := eq_true p688
                replace q688 := eq_true q688
                go_wp2_with (first | ((with_reducible refine gate_dst (N := 15) rfl ?_); refine box_event ?hg (N := 15) ?hd (cs := #[.string (⟨#[]⟩ : ByteArray), .int .i64 0, .int .i64 0, .string (⟨#[]⟩ : ByteArray), .int .i64 0, .int .i64 0, .int .i64 0, .int .i64 0, .bool false]) (t := 49) ?hr ?_; (case hd => rfl); (case hg => rfl); (case hr => first | (go_simp; done) | (go_simp; rfl)); intro gb689 hg w61 hbox hb; have BK689 := Aside0.mk (hbox); have GW689 := Aside0.mk ((by rw [hg]; exact (below_size (by repeat first | (with_reducible exact HB.out) | refine bl1 ?_ | (with_reducible refine bset ?_ ‹_›) | exact HB.out)) : w.heap.size ≤ gb689)); have GE689 := Aside0.mk ((by rw [hg]; exact (below_size (by repeat first | (with_reducible exact HB.out) | refine bl1 ?_ | (with_reducible refine bset ?_ ‹_›) | exact HB.out)) : w.heap.size ≤ gb689)); have NB687_689 := nlk hg BK687; have NB689_687 := ngk hg BK687; replace HO_11 := Aside0.mk (Kd.R_below (by (with_reducible repeat (first | apply Kd.R_alloc | apply Kd.R_drewN | apply Kd.R_drew)); exact HO_11.out) hb); replace BK687 := kb BK687 hb; replace HB := Aside0.mk (below_step (by repeat first | (with_reducible exact HB.out) | refine bl1 ?_ | (with_reducible refine bset ?_ ‹_›) | exact HB.out) hb); clear hb hbox hg; have hnb62 := NB689_687.out; have hnc62 := NB687_689.out; obtain ⟨hcz63_0, hcz63_1, hcz63_2, hcz63_3, hcz63_4, hcz63_5, hcz63_6, hcz63_7, hcz63_8⟩ := bc9 BK689.out; obtain ⟨hfz63_0, hfz63_1, hfz63_2, hfz63_3, hfz63_4, hfz63_5, hfz63_6, hfz63_7, hfz63_8⟩ := bf9 BK689.out; obtain ⟨hcz64_0, hcz64_1, hcz64_2, hcz64_3⟩ := bc4 BK687.out; obtain ⟨hfz64_0, hfz64_1, hfz64_2, hfz64_3⟩ := bf4 BK687.out) | ((with_reducible refine gate_callee (f := 38) rfl ?_); refine goesL_ (some 76) rfl rfl Try.func38 (by kernel_rfl) rfl #[.agg #[.string ((rd_T49 l0 x70_3).f0), .int .i64 ((rd_T49 l0 x70_3).f1), .int .i64 ((rd_T49 l0 x70_3).f2), .string ((rd_T49 l0 x70_3).f3), .int .i64 ((rd_T49 l0 x70_3).f4.f0), .int .i64 ((rd_T49 l0 x70_3).f4.f1), .int .i64 ((rd_T49 l0 x70_3).f5.f0), .int .i64 ((rd_T49 l0 x70_3).f5.f1), .bool ((rd_T49 l0 x70_3).f6)], .agg #[.string ((rd_T37 l1 x64_2).f0), .int .i64 ((rd_T37 l1 x64_2).f1), .int .i64 ((rd_T37 l1 x64_2).f2), .int .i64 ((rd_T37 l1 x64_2).f3)]] rfl (by (try simp only [mp]); first | done | rfl | (simp only [ld]; rfl)) ?_; (with_reducible refine (serinetteref21_fits.calls ((rd_T49 l0 x70_3).f0) ((rd_T49 l0 x70_3).f1) ((rd_T49 l0 x70_3).f2) ((rd_T49 l0 x70_3).f3) ((rd_T49 l0 x70_3).f4.f0) ((rd_T49 l0 x70_3).f4.f1) ((rd_T49 l0 x70_3).f5.f0) ((rd_T49 l0 x70_3).f5.f1) ((rd_T49 l0 x70_3).f6) ((rd_T37 l1 x64_2).f0) ((rd_T37 l1 x64_2).f1) ((rd_T37 l1 x64_2).f2) ((rd_T37 l1 x64_2).f3) true _ A42.out).mono ?_); rintro e w65 ⟨rfl, hb⟩; refine ⟨_, rfl, ?_⟩; replace HO_11 := Aside0.mk (Kd.R_below (by (with_reducible repeat (first | apply Kd.R_alloc | apply Kd.R_drewN | apply Kd.R_drew)); exact (Kd.R_mono (Kd.R_far (p := ⟨gb689, 8, none⟩) (Kd.R_far (p := ⟨gb689, 7, none⟩) (Kd.R_far (p := ⟨gb689, 6, none⟩) (Kd.R_far (p := ⟨gb689, 5, none⟩) (Kd.R_far (p := ⟨gb689, 4, none⟩) (Kd.R_far (p := ⟨gb689, 3, none⟩) (Kd.R_far (p := ⟨gb689, 2, none⟩) (Kd.R_far (p := ⟨gb689, 1, none⟩) (Kd.R_far (p := ⟨gb689, 0, none⟩) (Kd.R_types HO_11.out BK689.out (by decide)) (fun _ hk => hk.2) (.string ((rd_T49 l0 x70_3).f0))) (fun _ hk => hk.2) (.int .i64 ((rd_T49 l0 x70_3).f1))) (fun _ hk => hk.2) (.int .i64 ((rd_T49 l0 x70_3).f2))) (fun _ hk => hk.2) (.string ((rd_T49 l0 x70_3).f3))) (fun _ hk => hk.2) (.int .i64 ((rd_T49 l0 x70_3).f4.f0))) (fun _ hk => hk.2) (.int .i64 ((rd_T49 l0 x70_3).f4.f1))) (fun _ hk => hk.2) (.int .i64 ((rd_T49 l0 x70_3).f5.f0))) (fun _ hk => hk.2) (.int .i64 ((rd_T49 l0 x70_3).f5.f1))) (fun _ hk => hk.2) (.bool ((rd_T49 l0 x70_3).f6))) (fun _ h_ => h_.1))) hb); replace BK687 := Aside0.mk (blk_below (g := gb687) (o := .cells #[.string ((rd_T37 l1 x64_2).f0), .int .i64 ((rd_T37 l1 x64_2).f1), .int .i64 ((rd_T37 l1 x64_2).f2), .int .i64 ((rd_T37 l1 x64_2).f3)] 37 (0, 0)) (by refine bk ?_; refine blk_far ?_ NB687_689.out _; refine bk ?_; refine blk_far ?_ NB687_689.out _; refine bk ?_; refine blk_far ?_ NB687_689.out _; refine bk ?_; refine blk_far ?_ NB687_689.out _; refine bk ?_; refine blk_far ?_ NB687_689.out _; refine bk ?_; refine blk_far ?_ NB687_689.out _; refine bk ?_; refine blk_far ?_ NB687_689.out _; refine bk ?_; refine blk_far ?_ NB687_689.out _; refine bk ?_; refine blk_far ?_ NB687_689.out _; refine bk ?_; exact BK687.out) hb); replace BK689 := Aside0.mk (blk_below (g := gb689) (o := .cells #[.string ((rd_T49 l0 x70_3).f0), .int .i64 ((rd_T49 l0 x70_3).f1), .int .i64 ((rd_T49 l0 x70_3).f2), .string ((rd_T49 l0 x70_3).f3), .int .i64 ((rd_T49 l0 x70_3).f4.f0), .int .i64 ((rd_T49 l0 x70_3).f4.f1), .int .i64 ((rd_T49 l0 x70_3).f5.f0), .int .i64 ((rd_T49 l0 x70_3).f5.f1), .bool ((rd_T49 l0 x70_3).f6)] 49 (0, 0)) (by exact rq BK689.out (by rfl)) hb); replace HB := Aside0.mk (below_step (by repeat first | (with_reducible exact HB.out) | refine bl1 ?_ | (with_reducible refine bset ?_ ‹_›) | exact HB.out) hb); (try clear hb); (try clear hb2); (try clear hk); (try clear hi); obtain ⟨hcz66_0, hcz66_1, hcz66_2, hcz66_3, hcz66_4, hcz66_5, hcz66_6, hcz66_7, hcz66_8⟩ := bc9 BK689.out; obtain ⟨hfz66_0, hfz66_1, hfz66_2, hfz66_3, hfz66_4, hfz66_5, hfz66_6, hfz66_7, hfz66_8⟩ := bf9 BK689.out; obtain ⟨hcz67_0, hcz67_1, hcz67_2, hcz67_3⟩ := bc4 BK687.out; obtain ⟨hfz67_0, hfz67_1, hfz67_2, hfz67_3⟩ := bf4 BK687.out) | ((with_reducible refine gate_callee (f := 39) rfl ?_); refine goesL_ (some 81) rfl rfl Try.func39 (by kernel_rfl) rfl #[.agg #[.string ((rd_T49 l0 x70_3).f0), .int .i64 ((rd_T49 l0 x70_3).f1), .int .i64 ((rd_T49 l0 x70_3).f2), .string ((rd_T49 l0 x70_3).f3), .int .i64 ((rd_T49 l0 x70_3).f4.f0), .int .i64 ((rd_T49 l0 x70_3).f4.f1), .int .i64 ((rd_T49 l0 x70_3).f5.f0), .int .i64 ((rd_T49 l0 x70_3).f5.f1), .bool ((rd_T49 l0 x70_3).f6)], .agg #[.string ((rd_T37 l1 x64_2).f0), .int .i64 ((rd_T37 l1 x64_2).f1), .int .i64 ((rd_T37 l1 x64_2).f2), .int .i64 ((rd_T37 l1 x64_2).f3)]] rfl (by (try simp only [mp]); first | done | rfl | (simp only [ld]; rfl)) ?_; (with_reducible refine (serinetteref21_value.calls ((rd_T49 l0 x70_3).f0) ((rd_T49 l0 x70_3).f1) ((rd_T49 l0 x70_3).f2) ((rd_T49 l0 x70_3).f3) ((rd_T49 l0 x70_3).f4.f0) ((rd_T49 l0 x70_3).f4.f1) ((rd_T49 l0 x70_3).f5.f0) ((rd_T49 l0 x70_3).f5.f1) ((rd_T49 l0 x70_3).f6) ((rd_T37 l1 x64_2).f0) ((rd_T37 l1 x64_2).f1) ((rd_T37 l1 x64_2).f2) ((rd_T37 l1 x64_2).f3) t691 t692 false _ A44.out).mono ?_); rintro e w68 ⟨rfl, hb⟩; refine ⟨_, rfl, ?_⟩; replace HO_11 := Aside0.mk (Kd.R_below (by (with_reducible repeat (first | apply Kd.R_alloc | apply Kd.R_drewN | apply Kd.R_drew)); exact HO_11.out) hb); replace BK687 := kb BK687 hb; replace BK689 := kb BK689 hb; replace HB := Aside0.mk (below_step (by repeat first | (with_reducible exact HB.out) | refine bl1 ?_ | (with_reducible refine bset ?_ ‹_›) | exact HB.out) hb); (try clear hb); (try clear hb2); (try clear hk); (try clear hi)) | ((with_reducible refine gate_dst (N := 16) rfl ?_); refine box_event ?hg (N := 16) ?hd (cs := #[.int .i64 0, .int .i64 0]) (t := 46) ?hr ?_; (case hd => rfl); (case hg => rfl); (case hr => first | (go_simp; done) | (go_simp; rfl)); intro gb694 hg w69 hbox hb; have BK694 := Aside0.mk (hbox); have GW694 := Aside0.mk ((by rw [hg]; exact (below_size (by repeat first | (with_reducible exact HB.out) | refine bl1 ?_ | (with_reducible refine bset ?_ ‹_›) | exact HB.out)) : w.heap.size ≤ gb694)); have GE694 := Aside0.mk ((by rw [hg]; exact (below_size (by repeat first | (with_reducible exact HB.out) | refine bl1 ?_ | (with_reducible refine bset ?_ ‹_›) | exact HB.out)) : w.heap.size ≤ gb694)); have NB687_694 := nlk hg BK687; have NB694_687 := ngk hg BK687; have NB689_694 := nlk hg BK689; have NB694_689 := ngk hg BK689; replace HO_11 := Aside0.mk (Kd.R_below (by (with_reducible repeat (first | apply Kd.R_alloc | apply Kd.R_drewN | apply Kd.R_drew)); exact HO_11.out) hb); replace BK687 := kb BK687 hb; replace BK689 := kb BK689 hb; replace HB := Aside0.mk (below_step (by repeat first | (with_reducible exact HB.out) | refine bl1 ?_ | (with_reducible refine bset ?_ ‹_›) | exact HB.out) hb); clear hb hbox hg; have hnb70 := NB694_687.out; have hnc70 := NB687_694.out; have hnb71 := NB694_689.out; have hnc71 := NB689_694.out; obtain ⟨hcz72_0, hcz72_1⟩ := bc2 BK694.out; obtain ⟨hfz72_0, hfz72_1⟩ := bf2 BK694.out))
                go_roundg k3
                case measure => have := HK1.out; have := HK2.out; have := HK3.out; omega
                case rel => exact ⟨(x11_3), (wrap64 (x70_3 + 1)), (by first | rfl | (simp; done) | (simp [*]; done)), H', ⟨by have := HK1.out; have := HK2.out; have := HK3.out; omega⟩, ⟨by (with_reducible repeat (first | apply Kd.R_alloc | apply Kd.R_drewN | apply Kd.R_drew)); exact Kd.R_mono (Kd.R_far (p := ⟨gb694, 1, none⟩) (Kd.R_far (p := ⟨gb694, 0, none⟩) (Kd.R_types HO_11.out BK694.out (by decide)) (fun _ hk => hk.2) (.int .i64 t691)) (fun _ hk => hk.2) (.int .i64 t692)) (fun _ hk => trivial)⟩, ⟨by refine bk ?_; refine blk_far ?_ NB687_694.out _; refine bk ?_; refine blk_far ?_ NB687_694.out _; refine bk ?_; exact BK687.out⟩, ⟨by repeat first | (with_reducible exact HB.out) | (with_reducible refine bset ?_ ‹_›) | refine bl1 ?_ | exact HB.out⟩⟩
              ·
               replace c43 := Bool.eq_false_iff.mpr c43
               subst c43
               rw [if_neg (show ¬ (false = true) by decide)] at H
               have H' := Aside0.mk H
               clear H
               have p688 : 0 ≤ (x70_3 : Int) := of_decide_eq_true (by first | (with_reducible assumption) | assumption)
               have q688 : x70_3 < (l0.length : Int) := of_decide_eq_true (by first | (with_reducible assumption) | assumption)
               obtain ⟨ad688, e688, hx688_0, hx688_1, hx688_2, hx688_3, hx688_4, hx688_5, hx688_6, hx688_7, hx688_8⟩ := at_T49 HR0.out x70_3 p688 q688
               cases e688
               replace hx688_0 := (HB.out.cell (World.block_lt_of_cell? w _ hx688_0)).trans hx688_0
               replace hx688_1 := (HB.out.cell (World.block_lt_of_cell? w _ hx688_1)).trans hx688_1
               replace hx688_2 := (HB.out.cell (World.block_lt_of_cell? w _ hx688_2)).trans hx688_2
               replace hx688_3 := (HB.out.cell (World.block_lt_of_cell? w _ hx688_3)).trans hx688_3
               replace hx688_4 := (HB.out.cell (World.block_lt_of_cell? w _ hx688_4)).trans hx688_4
               replace hx688_5 := (HB.out.cell (World.block_lt_of_cell? w _ hx688_5)).trans hx688_5
               replace hx688_6 := (HB.out.cell (World.block_lt_of_cell? w _ hx688_6)).trans hx688_6
               replace hx688_7 := (HB.out.cell (World.block_lt_of_cell? w _ hx688_7)).trans hx688_7
               replace hx688_8 := (HB.out.cell (World.block_lt_of_cell? w _ hx688_8)).trans hx688_8
               replace p688 := eq_true p688
               replace q688 := eq_true q688
               go_wp2_with (first | ((with_reducible refine gate_dst (N := 15) rfl ?_); refine box_event ?hg (N := 15) ?hd (cs := #[.string (⟨#[]⟩ : ByteArray), .int .i64 0, .int .i64 0, .string (⟨#[]⟩ : ByteArray), .int .i64 0, .int .i64 0, .int .i64 0, .int .i64 0, .bool false]) (t := 49) ?hr ?_; (case hd => rfl); (case hg => rfl); (case hr => first | (go_simp; done) | (go_simp; rfl)); intro gb689 hg w73 hbox hb; have BK689 := Aside0.mk (hbox); have GW689 := Aside0.mk ((by rw [hg]; exact (below_size (by repeat first | (with_reducible exact HB.out) | refine bl1 ?_ | (with_reducible refine bset ?_ ‹_›) | exact HB.out)) : w.heap.size ≤ gb689)); have GE689 := Aside0.mk ((by rw [hg]; exact (below_size (by repeat first | (with_reducible exact HB.out) | refine bl1 ?_ | (with_reducible refine bset ?_ ‹_›) | exact HB.out)) : w.heap.size ≤ gb689)); have NB687_689 := nlk hg BK687; have NB689_687 := ngk hg BK687; replace HO_11 := Aside0.mk (Kd.R_below (by (with_reducible repeat (first | apply Kd.R_alloc | apply Kd.R_drewN | apply Kd.R_drew)); exact HO_11.out) hb); replace BK687 := kb BK687 hb; replace HB := Aside0.mk (below_step (by repeat first | (with_reducible exact HB.out) | refine bl1 ?_ | (with_reducible refine bset ?_ ‹_›) | exact HB.out) hb); clear hb hbox hg; have hnb74 := NB689_687.out; have hnc74 := NB687_689.out; obtain ⟨hcz75_0, hcz75_1, hcz75_2, hcz75_3, hcz75_4, hcz75_5, hcz75_6, hcz75_7, hcz75_8⟩ := bc9 BK689.out; obtain ⟨hfz75_0, hfz75_1, hfz75_2, hfz75_3, hfz75_4, hfz75_5, hfz75_6, hfz75_7, hfz75_8⟩ := bf9 BK689.out; obtain ⟨hcz76_0, hcz76_1, hcz76_2, hcz76_3⟩ := bc4 BK687.out; obtain ⟨hfz76_0, hfz76_1, hfz76_2, hfz76_3⟩ := bf4 BK687.out) | ((with_reducible refine gate_callee (f := 38) rfl ?_); refine goesL_ (some 76) rfl rfl Try.func38 (by kernel_rfl) rfl #[.agg #[.string ((rd_T49 l0 x70_3).f0), .int .i64 ((rd_T49 l0 x70_3).f1), .int .i64 ((rd_T49 l0 x70_3).f2), .string ((rd_T49 l0 x70_3).f3), .int .i64 ((rd_T49 l0 x70_3).f4.f0), .int .i64 ((rd_T49 l0 x70_3).f4.f1), .int .i64 ((rd_T49 l0 x70_3).f5.f0), .int .i64 ((rd_T49 l0 x70_3).f5.f1), .bool ((rd_T49 l0 x70_3).f6)], .agg #[.string ((rd_T37 l1 x64_2).f0), .int .i64 ((rd_T37 l1 x64_2).f1), .int .i64 ((rd_T37 l1 x64_2).f2), .int .i64 ((rd_T37 l1 x64_2).f3)]] rfl (by (try simp only [mp]); first | done | rfl | (simp only [ld]; rfl)) ?_; (with_reducible refine (serinetteref21_fits.calls ((rd_T49 l0 x70_3).f0) ((rd_T49 l0 x70_3).f1) ((rd_T49 l0 x70_3).f2) ((rd_T49 l0 x70_3).f3) ((rd_T49 l0 x70_3).f4.f0) ((rd_T49 l0 x70_3).f4.f1) ((rd_T49 l0 x70_3).f5.f0) ((rd_T49 l0 x70_3).f5.f1) ((rd_T49 l0 x70_3).f6) ((rd_T37 l1 x64_2).f0) ((rd_T37 l1 x64_2).f1) ((rd_T37 l1 x64_2).f2) ((rd_T37 l1 x64_2).f3) false _ A42.out).mono ?_); rintro e w77 ⟨rfl, hb⟩; refine ⟨_, rfl, ?_⟩; replace HO_11 := Aside0.mk (Kd.R_below (by (with_reducible repeat (first | apply Kd.R_alloc | apply Kd.R_drewN | apply Kd.R_drew)); exact (Kd.R_mono (Kd.R_far (p := ⟨gb689, 8, none⟩) (Kd.R_far (p := ⟨gb689, 7, none⟩) (Kd.R_far (p := ⟨gb689, 6, none⟩) (Kd.R_far (p := ⟨gb689, 5, none⟩) (Kd.R_far (p := ⟨gb689, 4, none⟩) (Kd.R_far (p := ⟨gb689, 3, none⟩) (Kd.R_far (p := ⟨gb689, 2, none⟩) (Kd.R_far (p := ⟨gb689, 1, none⟩) (Kd.R_far (p := ⟨gb689, 0, none⟩) (Kd.R_types HO_11.out BK689.out (by decide)) (fun _ hk => hk.2) (.string ((rd_T49 l0 x70_3).f0))) (fun _ hk => hk.2) (.int .i64 ((rd_T49 l0 x70_3).f1))) (fun _ hk => hk.2) (.int .i64 ((rd_T49 l0 x70_3).f2))) (fun _ hk => hk.2) (.string ((rd_T49 l0 x70_3).f3))) (fun _ hk => hk.2) (.int .i64 ((rd_T49 l0 x70_3).f4.f0))) (fun _ hk => hk.2) (.int .i64 ((rd_T49 l0 x70_3).f4.f1))) (fun _ hk => hk.2) (.int .i64 ((rd_T49 l0 x70_3).f5.f0))) (fun _ hk => hk.2) (.int .i64 ((rd_T49 l0 x70_3).f5.f1))) (fun _ hk => hk.2) (.bool ((rd_T49 l0 x70_3).f6))) (fun _ h_ => h_.1))) hb); replace BK687 := Aside0.mk (blk_below (g := gb687) (o := .cells #[.string ((rd_T37 l1 x64_2).f0), .int .i64 ((rd_T37 l1 x64_2).f1), .int .i64 ((rd_T37 l1 x64_2).f2), .int .i64 ((rd_T37 l1 x64_2).f3)] 37 (0, 0)) (by refine bk ?_; refine blk_far ?_ NB687_689.out _; refine bk ?_; refine blk_far ?_ NB687_689.out _; refine bk ?_; refine blk_far ?_ NB687_689.out _; refine bk ?_; refine blk_far ?_ NB687_689.out _; refine bk ?_; refine blk_far ?_ NB687_689.out _; refine bk ?_; refine blk_far ?_ NB687_689.out _; refine bk ?_; refine blk_far ?_ NB687_689.out _; refine bk ?_; refine blk_far ?_ NB687_689.out _; refine bk ?_; refine blk_far ?_ NB687_689.out _; refine bk ?_; exact BK687.out) hb); replace BK689 := Aside0.mk (blk_below (g := gb689) (o := .cells #[.string ((rd_T49 l0 x70_3).f0), .int .i64 ((rd_T49 l0 x70_3).f1), .int .i64 ((rd_T49 l0 x70_3).f2), .string ((rd_T49 l0 x70_3).f3), .int .i64 ((rd_T49 l0 x70_3).f4.f0), .int .i64 ((rd_T49 l0 x70_3).f4.f1), .int .i64 ((rd_T49 l0 x70_3).f5.f0), .int .i64 ((rd_T49 l0 x70_3).f5.f1), .bool ((rd_T49 l0 x70_3).f6)] 49 (0, 0)) (by exact rq BK689.out (by rfl)) hb); replace HB := Aside0.mk (below_step (by repeat first | (with_reducible exact HB.out) | refine bl1 ?_ | (with_reducible refine bset ?_ ‹_›) | exact HB.out) hb); (try clear hb); (try clear hb2); (try clear hk); (try clear hi)))
               go_roundg k3
               case measure => have := HK1.out; have := HK2.out; have := HK3.out; omega
               case rel => exact ⟨(x11_3), (wrap64 (x70_3 + 1)), (by first | rfl | (simp; done) | (simp [*]; done)), H', ⟨by have := HK1.out; have := HK2.out; have := HK3.out; omega⟩, ⟨by (with_reducible repeat (first | apply Kd.R_alloc | apply Kd.R_drewN | apply Kd.R_drew)); exact HO_11.out⟩, ⟨by refine bk ?_; exact BK687.out⟩, ⟨by repeat first | (with_reducible exact HB.out) | (with_reducible refine bset ?_ ‹_›) | refine bl1 ?_ | exact HB.out⟩⟩
             ·
              rw [if_neg c41] at H
              exact absurd H (by simp)
            ·
             rw [if_neg c40] at H
             exact absurd H (by simp)
           ·
            rw [if_neg c39] at H
            have c39b0 : decide (x70_3 < (l0.length : Int)) = false := decide_eq_false c39
            clear c39
            have H' := Aside0.mk H
            clear H
            go_wp2
            go_roundg k3
            case measure => have := HK1.out; have := HK2.out; have := HK3.out; omega
            case rel => exact ⟨(x11_3), (wrap64 (x64_2 + 1)), (by first | rfl | (simp; done) | (simp [*]; done)), H', ⟨by have := HK1.out; have := HK2.out; have := HK3.out; omega⟩, ⟨by (with_reducible repeat (first | apply Kd.R_alloc | apply Kd.R_drewN | apply Kd.R_drew)); exact HO_11.out⟩, ⟨by repeat first | (with_reducible exact HB.out) | (with_reducible refine bset ?_ ‹_›) | refine bl1 ?_ | exact HB.out⟩⟩
        ·
         rw [if_neg c36] at H
         exact absurd H (by simp)
       ·
        rw [if_neg c35] at H
        exact absurd H (by simp)
      ·
       rw [if_neg c34] at H
       have c34b0 : decide (x64_2 < (l1.length : Int)) = false := decide_eq_false c34
       clear c34
       simp only [Option.some.injEq, Prod.mk.injEq] at H
       obtain ⟨rfl, rfl⟩ := H
       go_wp2
       go_ret2
       exact ⟨_, by first | rfl | (simp [errW_none, errW_some] <;> rfl) | (simp [*, errW_none, errW_some] <;> rfl), by (with_reducible repeat (first | apply Kd.R_alloc | apply Kd.R_drewN | apply Kd.R_drew)); exact HO_11.out, (bl HB.out)⟩
mutual
def serinettelaw21_EventsMade.j0 : Nat → List (S48) → List (S37) → Int → Bool → Option (Bool)
 | 0, _, _, _, _ => none
 | k + 1, x0, x1, x2, x23 => if x23 = true then ((serinettelaw21_awake.f k).bind fun t700 => (some t700)) else (serinettelaw21_EventsMade.l0 k x0 x1 x2 x1 (x1.length : Int) 0)
def serinettelaw21_EventsMade.l0 : Nat → List (S48) → List (S37) → Int → List (S37) → Int → Int → Option (Bool)
 | 0, _, _, _, _, _, _ => none
 | k + 1, x0, x1, x2, x25, x26, x27 => if x27 < x26 then (if 0 ≤ x27 then (if x27 < (x25.length : Int) then ((serinetteref21_Valid.f k ((rd_T37 x25 x27).f0) ((rd_T37 x25 x27).f1) ((rd_T37 x25 x27).f2) ((rd_T37 x25 x27).f3)).bind fun t703 => (if t703 = true then (serinettelaw21_EventsMade.l0 k x0 x1 x2 x25 x26 (wrap64 (x27 + 1))) else ((serinettelaw21_awake.f k).bind fun t704 => (some t704)))) else (none)) else (none)) else (serinettelaw21_EventsMade.l1 k x0 x1 x2 ([] : List (S49)) x0 (x0.length : Int) 0)
def serinettelaw21_EventsMade.l1 : Nat → List (S48) → List (S37) → Int → List (S49) → List (S48) → Int → Int → Option (Bool)
 | 0, _, _, _, _, _, _, _ => none
 | k + 1, x0, x1, x2, x9, x36, x37, x38 => if x38 < x37 then (if 0 ≤ x38 then (if x38 < (x36.length : Int) then (if x9.length < 1599289640401 then (serinettelaw21_EventsMade.l1 k x0 x1 x2 (x9 ++ [(⟨(rd_T48 x36 x38).f0, (rd_T48 x36 x38).f1, (rd_T48 x36 x38).f2, (rd_T48 x36 x38).f3, (⟨(rd_T48 x36 x38).f4.f0, (rd_T48 x36 x38).f4.f1⟩ : S46), (⟨(rd_T48 x36 x38).f5.f0, (rd_T48 x36 x38).f5.f1⟩ : S46), (rd_T48 x36 x38).f6⟩ : S49)]) x36 x37 (wrap64 (x38 + 1))) else (none)) else (none)) else (none)) else ((message_Events.f k x0 x1 x2).bind fun bt710 => ((serinetteref21_Events.f k x9 x1 x2).bind fun bt714 => (if bt710.2 = bt714.2 then ((serinetteref01_SameEvents.f k bt710.1 bt714.1).bind fun t718 => (if t718 = true then ((serinettelaw21_awake.f k).bind fun t719 => (some t719)) else (some false))) else (some false))))
end
def serinettelaw21_EventsMade.f (k : Nat) (l0 : List (S48)) (l1 : List (S37)) (a2 : Int) : Option (Bool) := if (l0.length : Int) > 40 then (serinettelaw21_EventsMade.j0 k l0 l1 a2 true) else (serinettelaw21_EventsMade.j0 k l0 l1 a2 (decide ((l1.length : Int) > 100)))
theorem serinettelaw21_EventsMade.mono_l : ∀ k, (∀ y0 y1 y2 y3, LeO (serinettelaw21_EventsMade.j0 k y0 y1 y2 y3) (serinettelaw21_EventsMade.j0 (k + 1) y0 y1 y2 y3)) ∧ (∀ y0 y1 y2 y3 y4 y5, LeO (serinettelaw21_EventsMade.l0 k y0 y1 y2 y3 y4 y5) (serinettelaw21_EventsMade.l0 (k + 1) y0 y1 y2 y3 y4 y5)) ∧ (∀ y0 y1 y2 y3 y4 y5 y6, LeO (serinettelaw21_EventsMade.l1 k y0 y1 y2 y3 y4 y5 y6) (serinettelaw21_EventsMade.l1 (k + 1) y0 y1 y2 y3 y4 y5 y6))
 | 0 => ⟨fun _ _ _ _ r h => by simp [serinettelaw21_EventsMade.j0] at h, fun _ _ _ _ _ _ r h => by simp [serinettelaw21_EventsMade.l0] at h, fun _ _ _ _ _ _ _ r h => by simp [serinettelaw21_EventsMade.l1] at h⟩
 | k + 1 => by
  obtain ⟨ih0, ih1, ih2⟩ := serinettelaw21_EventsMade.mono_l k
  refine ⟨?_, ?_, ?_⟩
  ·
   intro y0 y1 y2 y3
   unfold serinettelaw21_EventsMade.j0
   repeat' first
   | (with_reducible exact ih0 _ _ _ _)
   | (with_reducible exact ih1 _ _ _ _ _ _)
   | (with_reducible exact ih2 _ _ _ _ _ _ _)
   | (with_reducible exact message_Events.mono _ _ _ _)
   | (with_reducible exact serinettelaw21_awake.mono _)
   | (with_reducible exact serinetteref01_SameEvents.mono _ _ _)
   | (with_reducible exact serinetteref21_Events.mono _ _ _ _)
   | (with_reducible exact serinetteref21_Valid.mono _ _ _ _ _)
   | (with_reducible exact LeO.refl _)
   | (with_reducible exact LeO.none _)
   | (with_reducible refine LeO.ite ?_ ?_)
   | (with_reducible refine LeO.bind ?_ (fun _ => ?_))
   | exact ih0 _ _ _ _
   | exact ih1 _ _ _ _ _ _
   | exact ih2 _ _ _ _ _ _ _
   | exact message_Events.mono _ _ _ _
   | exact serinettelaw21_awake.mono _
   | exact serinetteref01_SameEvents.mono _ _ _
   | exact serinetteref21_Events.mono _ _ _ _
   | exact serinetteref21_Valid.mono _ _ _ _ _
   | exact LeO.none _
   | refine LeO.ite ?_ ?_
   | refine LeO.bind ?_ (fun _ => ?_)
  ·
   intro y0 y1 y2 y3 y4 y5
   unfold serinettelaw21_EventsMade.l0
   repeat' first
   | (with_reducible exact ih0 _ _ _ _)
   | (with_reducible exact ih1 _ _ _ _ _ _)
   | (with_reducible exact ih2 _ _ _ _ _ _ _)
   | (with_reducible exact message_Events.mono _ _ _ _)
   | (with_reducible exact serinettelaw21_awake.mono _)
   | (with_reducible exact serinetteref01_SameEvents.mono _ _ _)
   | (with_reducible exact serinetteref21_Events.mono _ _ _ _)
   | (with_reducible exact serinetteref21_Valid.mono _ _ _ _ _)
   | (with_reducible exact LeO.refl _)
   | (with_reducible exact LeO.none _)
   | (with_reducible refine LeO.ite ?_ ?_)
   | (with_reducible refine LeO.bind ?_ (fun _ => ?_))
   | exact ih0 _ _ _ _
   | exact ih1 _ _ _ _ _ _
   | exact ih2 _ _ _ _ _ _ _
   | exact message_Events.mono _ _ _ _
   | exact serinettelaw21_awake.mono _
   | exact serinetteref01_SameEvents.mono _ _ _
   | exact serinetteref21_Events.mono _ _ _ _
   | exact serinetteref21_Valid.mono _ _ _ _ _
   | exact LeO.none _
   | refine LeO.ite ?_ ?_
   | refine LeO.bind ?_ (fun _ => ?_)
  ·
   intro y0 y1 y2 y3 y4 y5 y6
   unfold serinettelaw21_EventsMade.l1
   repeat' first
   | (with_reducible exact ih0 _ _ _ _)
   | (with_reducible exact ih1 _ _ _ _ _ _)
   | (with_reducible exact ih2 _ _ _ _ _ _ _)
   | (with_reducible exact message_Events.mono _ _ _ _)
   | (with_reducible exact serinettelaw21_awake.mono _)
   | (with_reducible exact serinetteref01_SameEvents.mono _ _ _)
   | (with_reducible exact serinetteref21_Events.mono _ _ _ _)
   | (with_reducible exact serinetteref21_Valid.mono _ _ _ _ _)
   | (with_reducible exact LeO.refl _)
   | (with_reducible exact LeO.none _)
   | (with_reducible refine LeO.ite ?_ ?_)
   | (with_reducible refine LeO.bind ?_ (fun _ => ?_))
   | exact ih0 _ _ _ _
   | exact ih1 _ _ _ _ _ _
   | exact ih2 _ _ _ _ _ _ _
   | exact message_Events.mono _ _ _ _
   | exact serinettelaw21_awake.mono _
   | exact serinetteref01_SameEvents.mono _ _ _
   | exact serinetteref21_Events.mono _ _ _ _
   | exact serinetteref21_Valid.mono _ _ _ _ _
   | exact LeO.none _
   | refine LeO.ite ?_ ?_
   | refine LeO.bind ?_ (fun _ => ?_)
theorem serinettelaw21_EventsMade.mono : ∀ a0 a1 a2 k, LeO (serinettelaw21_EventsMade.f k a0 a1 a2) (serinettelaw21_EventsMade.f (k + 1) a0 a1 a2) := by
 intro a0 a1 a2 k
 obtain ⟨ih0, ih1, ih2⟩ := serinettelaw21_EventsMade.mono_l k
 unfold serinettelaw21_EventsMade.f
 repeat' first
   | (with_reducible exact ih0 _ _ _ _)
   | (with_reducible exact ih1 _ _ _ _ _ _)
   | (with_reducible exact ih2 _ _ _ _ _ _ _)
   | (with_reducible exact message_Events.mono _ _ _ _)
   | (with_reducible exact serinettelaw21_awake.mono _)
   | (with_reducible exact serinetteref01_SameEvents.mono _ _ _)
   | (with_reducible exact serinetteref21_Events.mono _ _ _ _)
   | (with_reducible exact serinetteref21_Valid.mono _ _ _ _ _)
   | (with_reducible exact LeO.refl _)
   | (with_reducible exact LeO.none _)
   | (with_reducible refine LeO.ite ?_ ?_)
   | (with_reducible refine LeO.bind ?_ (fun _ => ?_))
   | exact ih0 _ _ _ _
   | exact ih1 _ _ _ _ _ _
   | exact ih2 _ _ _ _ _ _ _
   | exact message_Events.mono _ _ _ _
   | exact serinettelaw21_awake.mono _
   | exact serinetteref01_SameEvents.mono _ _ _
   | exact serinetteref21_Events.mono _ _ _ _
   | exact serinetteref21_Valid.mono _ _ _ _ _
   | exact LeO.none _
   | refine LeO.ite ?_ ?_
   | refine LeO.bind ?_ (fun _ => ?_)
set_option maxHeartbeats 8000000 in
set_option maxRecDepth 100000 in
theorem serinettelaw21_EventsMade.calls (k : Nat) (A0 : Option Addr) (c0 : Nat) (l0 : List (S48)) (A1 : Option Addr) (c1 : Nat) (l1 : List (S37)) (a2 : Int) (r : Bool) (w : World) (hr0 : Kd.C k48 w A0 l0.length l0) (hc0 : l0.length ≤ c0) (hr1 : Kd.C k37 w A1 l1.length l1) (hc1 : l1.length ≤ c1) (h : serinettelaw21_EventsMade.f k l0 l1 a2 = some r) :
  Calls Try.prog 7 #[.slice A0 l0.length c0, .slice A1 l1.length c1, .int .i64 a2] w fun e w' => e = .returned (.bool r) ∧ Below w.heap.size w w' := by
 have hu37 := Try.underlying37
 have hu48 := Try.underlying48
 have HR0 := Aside0.mk hr0
 have HC0 := Aside0.mk hc0
 clear hr0 hc0
 have HR1 := Aside0.mk hr1
 have HC1 := Aside0.mk hc1
 clear hr1 hc1
 have HB := Aside0.mk (Below.refl w.heap.size w)
 have H : (if (l0.length : Int) > 40 then (serinettelaw21_EventsMade.j0 k l0 l1 a2 true) else (serinettelaw21_EventsMade.j0 k l0 l1 a2 (decide ((l1.length : Int) > 100)))) = some r := h
 clear h
 have HC4 := Aside0.mk H
 clear H
 go_enter Try.func7, Try.ntmps7
 go_upto_region 1 with (fail)
 go_cut [23] (fun v23 wc => ∃ (kq : Nat) (x23_3 : Bool), v23 = .bool x23_3 ∧ Aside0 (serinettelaw21_EventsMade.j0 kq l0 l1 a2 x23_3 = some r) ∧ Aside0 (kq ≤ k) ∧ Aside0 (Below w.heap.size w wc))
 case first =>
  have H := HC4.out
  clear HC4
  by_cases c5 : (l0.length : Int) > 40
  ·
   rw [if_pos c5] at H
   have c5b0 : decide (40 < (l0.length : Int)) = true := decide_eq_true c5
   have c5b1 : decide (40 < l0.length) = true := decide_eq_true (by omega)
   clear c5
   (first | rw [c5b0] | (simp only [i64_w, i32_w]; rw [c5b0]) | skip)
   have H' := Aside0.mk H
   clear H
   go_wp2
   go_meet
   case rel => exact ⟨_, (true), (by first | rfl | (simp; done) | (simp [*]; done)), H', ⟨by first | omega | exact Nat.le_refl _⟩, ⟨(bl HB.out)⟩⟩
  ·
   rw [if_neg c5] at H
   have c5b0 : decide (40 < (l0.length : Int)) = false := decide_eq_false c5
   have c5b1 : decide (40 < l0.length) = false := decide_eq_false (by omega)
   clear c5
   (first | rw [c5b0] | (simp only [i64_w, i32_w]; rw [c5b0]) | skip)
   have H' := Aside0.mk H
   clear H
   go_wp2
   go_meet
   case rel => exact ⟨_, (decide ((l1.length : Int) > 100)), (by first | rfl | (simp; done) | (simp [*]; done)), H', ⟨by first | omega | exact Nat.le_refl _⟩, ⟨(bl HB.out)⟩⟩
 case rest =>
  clear HC4
  (try clear c1); (try clear p2); (try clear c5); (try clear c5b0); (try clear c5b1)
  obtain ⟨kq, x23_3, rfl, HA, HJ3, HB⟩ := hcut
  cases kq with
  | zero => exact absurd HA.out (by simp [serinettelaw21_EventsMade.j0])
  | succ kj3 =>
   have H := HA.out
   clear HA
   simp only [serinettelaw21_EventsMade.j0] at H
   by_cases c6 : x23_3 = true
   ·
    subst c6
    rw [if_pos rfl] at H
    replace H := Option.bind_eq_some_iff.mp H
    obtain ⟨t700, A70, H⟩ := H
    (try dsimp only at H)
    have A7 := Aside0.mk A70
    clear A70
    obtain rfl := Option.some.inj H
    go_wp2_with (first | ((with_reducible refine gate_callee (f := 8) rfl ?_); refine goesL_ (some 24) rfl rfl Try.func8 (by kernel_rfl) rfl #[] rfl (by (try simp only [mp]); first | done | rfl | (simp only [ld]; rfl)) ?_; (with_reducible refine (serinettelaw21_awake.calls kj3  t700 _ A7.out).mono ?_); rintro e w8 ⟨rfl, hb⟩; refine ⟨_, rfl, ?_⟩; replace HB := hs HB hb; (try clear hb); (try clear hb2); (try clear hk); (try clear hi)))
    go_ret
    exact ⟨by first | rfl | (simp [errW_none, errW_some] <;> rfl) | (simp [*, errW_none, errW_some] <;> rfl), (bl HB.out)⟩
   ·
    replace c6 := Bool.eq_false_iff.mpr c6
    subst c6
    rw [if_neg (show ¬ (false = true) by decide)] at H
    have H' := Aside0.mk H
    clear H
    go_wp2
    go_loopg [27] kj3 (fun kq v27 w' => ∃ (x27_2 : Int), v27 = .int .i64 x27_2 ∧ Aside0 (serinettelaw21_EventsMade.l0 kq l0 l1 a2 l1 (l1.length : Int) x27_2 = some r) ∧ Aside0 (kq ≤ kj3) ∧ Aside0 (Below w.heap.size w w'))
    case atStart => exact ⟨(0), (by first | rfl | (simp; done) | (simp [*]; done)), H', ⟨Nat.le_refl _⟩, ⟨(bl HB.out)⟩⟩
    case round =>
     clear H'
     (try clear c1); (try clear p2); (try clear c5); (try clear c5b0); (try clear c5b1); (try clear c6); (try clear c7); (try clear c8); (try clear p2)
     obtain ⟨x27_2, rfl, HA, HK2, HB⟩ := hrel
     cases gk with
     | zero => exact absurd HA.out (by simp [serinettelaw21_EventsMade.l0])
     | succ k2 =>
      have H := HA.out
      clear HA
      simp only [serinettelaw21_EventsMade.l0] at H
      by_cases c9 : x27_2 < (l1.length : Int)
      ·
       rw [if_pos c9] at H
       have c9b0 : decide (x27_2 < (l1.length : Int)) = true := decide_eq_true c9
       clear c9
       by_cases c10 : 0 ≤ x27_2
       ·
        rw [if_pos c10] at H
        have c10b0 : decide (0 ≤ x27_2) = true := decide_eq_true c10
        clear c10
        by_cases c11 : x27_2 < (l1.length : Int)
        ·
         rw [if_pos c11] at H
         have c11b0 : decide (x27_2 < (l1.length : Int)) = true := decide_eq_true c11
         clear c11
         replace H := Option.bind_eq_some_iff.mp H
         obtain ⟨t703, A120, H⟩ := H
         (try dsimp only at H)
         have A12 := Aside0.mk A120
         clear A120
         by_cases c13 : t703 = true
         ·
          subst c13
          rw [if_pos rfl] at H
          have H' := Aside0.mk H
          clear H
          have p701 : 0 ≤ (x27_2 : Int) := of_decide_eq_true (by first | (with_reducible assumption) | assumption)
          have q701 : x27_2 < (l1.length : Int) := of_decide_eq_true (by first | (with_reducible assumption) | assumption)
          obtain ⟨ad701, e701, hx701_0, hx701_1, hx701_2, hx701_3⟩ := at_T37 HR1.out x27_2 p701 q701
          cases e701
          replace hx701_0 := (HB.out.cell (World.block_lt_of_cell? w _ hx701_0)).trans hx701_0
          replace hx701_1 := (HB.out.cell (World.block_lt_of_cell? w _ hx701_1)).trans hx701_1
          replace hx701_2 := (HB.out.cell (World.block_lt_of_cell? w _ hx701_2)).trans hx701_2
          replace hx701_3 := (HB.out.cell (World.block_lt_of_cell? w _ hx701_3)).trans hx701_3
          replace p701 := eq_true p701
          replace q701 := eq_true q701
          go_wp2_with (first | ((with_reducible refine gate_dst (N := 8) rfl ?_); (try (refine gate_guard (by rfl) ?_; dsimp only)); refine box_event ?hg (N := 8) ?hd (cs := #[.string (⟨#[]⟩ : ByteArray), .int .i64 0, .int .i64 0, .int .i64 0]) (t := 37) ?hr ?_; (case hd => rfl); (case hg => rfl); (case hr => first | (go_simp; done) | (go_simp; rfl)); intro gb702 hg w14 hbox hb; have BK702 := Aside0.mk (hbox); have GW702 := hz_ hg HB; have GE702 := hz_ hg HB; replace HB := hs HB hb; clear hb hbox hg; obtain ⟨hcz15_0, hcz15_1, hcz15_2, hcz15_3⟩ := bc4 BK702.out; obtain ⟨hfz15_0, hfz15_1, hfz15_2, hfz15_3⟩ := bf4 BK702.out) | ((with_reducible refine gate_callee (f := 18) rfl ?_); refine goesL_ (some 32) rfl rfl Try.func18 (by kernel_rfl) rfl #[.agg #[.string ((rd_T37 l1 x27_2).f0), .int .i64 ((rd_T37 l1 x27_2).f1), .int .i64 ((rd_T37 l1 x27_2).f2), .int .i64 ((rd_T37 l1 x27_2).f3)]] rfl (by (try simp only [mp]); first | done | rfl | (simp only [ld]; rfl)) ?_; (with_reducible refine (serinetteref21_Valid.calls k2 ((rd_T37 l1 x27_2).f0) ((rd_T37 l1 x27_2).f1) ((rd_T37 l1 x27_2).f2) ((rd_T37 l1 x27_2).f3) true _ A12.out).mono ?_); rintro e w16 ⟨rfl, hb⟩; refine ⟨_, rfl, ?_⟩; replace BK702 := Aside0.mk (blk_below (g := gb702) (o := .cells #[.string ((rd_T37 l1 x27_2).f0), .int .i64 ((rd_T37 l1 x27_2).f1), .int .i64 ((rd_T37 l1 x27_2).f2), .int .i64 ((rd_T37 l1 x27_2).f3)] 37 (0, 0)) (by exact rq BK702.out (by rfl)) hb); replace HB := Aside0.mk (below_step (by repeat first | (with_reducible exact HB.out) | refine bl1 ?_ | (with_reducible refine bset ?_ ‹_›) | exact HB.out) hb); (try clear hb); (try clear hb2); (try clear hk); (try clear hi)))
          go_roundg k2
          case measure => have := HJ3.out; have := HK2.out; omega
          case rel => exact ⟨(wrap64 (x27_2 + 1)), (by first | rfl | (simp; done) | (simp [*]; done)), H', ⟨by have := HJ3.out; have := HK2.out; omega⟩, ⟨by repeat first | (with_reducible exact HB.out) | (with_reducible refine bset ?_ ‹_›) | refine bl1 ?_ | exact HB.out⟩⟩
         ·
          replace c13 := Bool.eq_false_iff.mpr c13
          subst c13
          rw [if_neg (show ¬ (false = true) by decide)] at H
          replace H := Option.bind_eq_some_iff.mp H
          obtain ⟨t704, A170, H⟩ := H
          (try dsimp only at H)
          have A17 := Aside0.mk A170
          clear A170
          obtain rfl := Option.some.inj H
          have p701 : 0 ≤ (x27_2 : Int) := of_decide_eq_true (by first | (with_reducible assumption) | assumption)
          have q701 : x27_2 < (l1.length : Int) := of_decide_eq_true (by first | (with_reducible assumption) | assumption)
          obtain ⟨ad701, e701, hx701_0, hx701_1, hx701_2, hx701_3⟩ := at_T37 HR1.out x27_2 p701 q701
          cases e701
          replace hx701_0 := (HB.out.cell (World.block_lt_of_cell? w _ hx701_0)).trans hx701_0
          replace hx701_1 := (HB.out.cell (World.block_lt_of_cell? w _ hx701_1)).trans hx701_1
          replace hx701_2 := (HB.out.cell (World.block_lt_of_cell? w _ hx701_2)).trans hx701_2
          replace hx701_3 := (HB.out.cell (World.block_lt_of_cell? w _ hx701_3)).trans hx701_3
          replace p701 := eq_true p701
          replace q701 := eq_true q701
          go_wp2_with (first | ((with_reducible refine gate_dst (N := 8) rfl ?_); (try (refine gate_guard (by rfl) ?_; dsimp only)); refine box_event ?hg (N := 8) ?hd (cs := #[.string (⟨#[]⟩ : ByteArray), .int .i64 0, .int .i64 0, .int .i64 0]) (t := 37) ?hr ?_; (case hd => rfl); (case hg => rfl); (case hr => first | (go_simp; done) | (go_simp; rfl)); intro gb702 hg w18 hbox hb; have BK702 := Aside0.mk (hbox); have GW702 := hz_ hg HB; have GE702 := hz_ hg HB; replace HB := hs HB hb; clear hb hbox hg; obtain ⟨hcz19_0, hcz19_1, hcz19_2, hcz19_3⟩ := bc4 BK702.out; obtain ⟨hfz19_0, hfz19_1, hfz19_2, hfz19_3⟩ := bf4 BK702.out) | ((with_reducible refine gate_callee (f := 18) rfl ?_); refine goesL_ (some 32) rfl rfl Try.func18 (by kernel_rfl) rfl #[.agg #[.string ((rd_T37 l1 x27_2).f0), .int .i64 ((rd_T37 l1 x27_2).f1), .int .i64 ((rd_T37 l1 x27_2).f2), .int .i64 ((rd_T37 l1 x27_2).f3)]] rfl (by (try simp only [mp]); first | done | rfl | (simp only [ld]; rfl)) ?_; (with_reducible refine (serinetteref21_Valid.calls k2 ((rd_T37 l1 x27_2).f0) ((rd_T37 l1 x27_2).f1) ((rd_T37 l1 x27_2).f2) ((rd_T37 l1 x27_2).f3) false _ A12.out).mono ?_); rintro e w20 ⟨rfl, hb⟩; refine ⟨_, rfl, ?_⟩; replace BK702 := Aside0.mk (blk_below (g := gb702) (o := .cells #[.string ((rd_T37 l1 x27_2).f0), .int .i64 ((rd_T37 l1 x27_2).f1), .int .i64 ((rd_T37 l1 x27_2).f2), .int .i64 ((rd_T37 l1 x27_2).f3)] 37 (0, 0)) (by exact rq BK702.out (by rfl)) hb); replace HB := Aside0.mk (below_step (by repeat first | (with_reducible exact HB.out) | refine bl1 ?_ | (with_reducible refine bset ?_ ‹_›) | exact HB.out) hb); (try clear hb); (try clear hb2); (try clear hk); (try clear hi)) | ((with_reducible refine gate_callee (f := 8) rfl ?_); refine goesL_ (some 34) rfl rfl Try.func8 (by kernel_rfl) rfl #[] rfl (by (try simp only [mp]); first | done | rfl | (simp only [ld]; rfl)) ?_; (with_reducible refine (serinettelaw21_awake.calls k2  t704 _ A17.out).mono ?_); rintro e w21 ⟨rfl, hb⟩; refine ⟨_, rfl, ?_⟩; replace BK702 := kb BK702 hb; replace HB := Aside0.mk (below_step (by repeat first | (with_reducible exact HB.out) | refine bl1 ?_ | (with_reducible refine bset ?_ ‹_›) | exact HB.out) hb); (try clear hb); (try clear hb2); (try clear hk); (try clear hi)))
          go_ret
          exact ⟨by first | rfl | (simp [errW_none, errW_some] <;> rfl) | (simp [*, errW_none, errW_some] <;> rfl), by repeat first | (with_reducible exact HB.out) | (with_reducible refine bset ?_ ‹_›) | refine bl1 ?_ | exact HB.out⟩
        ·
         rw [if_neg c11] at H
         exact absurd H (by simp)
       ·
        rw [if_neg c10] at H
        exact absurd H (by simp)
      ·
       rw [if_neg c9] at H
       have c9b0 : decide (x27_2 < (l1.length : Int)) = false := decide_eq_false c9
       clear c9
       have H' := Aside0.mk H
       clear H
       go_wp2
       go_loopg [9, 38] k2 (fun kq v9 v38 w' => ∃ (x9_3 : List (S49)) (x38_3 : Int), v38 = .int .i64 x38_3 ∧ Aside0 (serinettelaw21_EventsMade.l1 kq l0 l1 a2 x9_3 l0 (l0.length : Int) x38_3 = some r) ∧ Aside0 (kq ≤ k2) ∧ Aside0 (Kd.R k49 49 w' w.heap.size (fun _ => True) v9 x9_3) ∧ Aside0 (Below w.heap.size w w'))
       case atStart => exact ⟨(([] : List (S49))), (0), (by first | rfl | (simp; done) | (simp [*]; done)), H', ⟨Nat.le_refl _⟩, ⟨by first | exact Kd.R_nil _ _ _ _ _ | exact Kd.N_nil _ _ _ _ _ | exact Kd.V_nil _ _ _ _ _ | exact Kd.Q_nil _ _ _ _ _ | exact Kd.S_nil _ _ _ _ _⟩, ⟨(bl HB.out)⟩⟩
       case round =>
        clear H'
        (try clear c1); (try clear p2); (try clear c5); (try clear c5b0); (try clear c5b1); (try clear c6); (try clear p6); (try clear c7); (try clear p7); (try clear q7); (try clear hx7); (try clear c8); (try clear c9); (try clear c9b0); (try clear c10); (try clear c10b0); (try clear c11); (try clear c11b0); (try clear c13); (try clear c18); (try clear hcz15_0); (try clear hcz15_1); (try clear hcz15_2); (try clear hcz15_3); (try clear hcz19_0); (try clear hcz19_1); (try clear hcz19_2); (try clear hcz19_3); (try clear hfz15_0); (try clear hfz15_1); (try clear hfz15_2); (try clear hfz15_3); (try clear hfz19_0); (try clear hfz19_1); (try clear hfz19_2); (try clear hfz19_3); (try clear hx701_0); (try clear hx701_1); (try clear hx701_2); (try clear hx701_3); (try clear p2); (try clear p701); (try clear q701)
        obtain ⟨x9_3, x38_3, rfl, HA, HK3, HO_9, HB⟩ := hrel
        cases gk with
        | zero => exact absurd HA.out (by simp [serinettelaw21_EventsMade.l1])
        | succ k3 =>
         have H := HA.out
         clear HA
         simp only [serinettelaw21_EventsMade.l1] at H
         by_cases c22 : x38_3 < (l0.length : Int)
         ·
          rw [if_pos c22] at H
          have c22b0 : decide (x38_3 < (l0.length : Int)) = true := decide_eq_true c22
          clear c22
          by_cases c23 : 0 ≤ x38_3
          ·
           rw [if_pos c23] at H
           have c23b0 : decide (0 ≤ x38_3) = true := decide_eq_true c23
           clear c23
           by_cases c24 : x38_3 < (l0.length : Int)
           ·
            rw [if_pos c24] at H
            have c24b0 : decide (x38_3 < (l0.length : Int)) = true := decide_eq_true c24
            clear c24
            by_cases c25 : x9_3.length < 1599289640401
            ·
             rw [if_pos c25] at H
             have LMc25 := Aside0.mk c25
             clear c25
             obtain ⟨y707, hy707⟩ : ∃ y_ : List (S49), y_ = (x9_3 ++ [(⟨(rd_T48 l0 x38_3).f0, (rd_T48 l0 x38_3).f1, (rd_T48 l0 x38_3).f2, (rd_T48 l0 x38_3).f3, (⟨(rd_T48 l0 x38_3).f4.f0, (rd_T48 l0 x38_3).f4.f1⟩ : S46), (⟨(rd_T48 l0 x38_3).f5.f0, (rd_T48 l0 x38_3).f5.f1⟩ : S46), (rd_T48 l0 x38_3).f6⟩ : S49)]) := ⟨_, rfl⟩
             replace H : (serinettelaw21_EventsMade.l1 k3 l0 l1 a2 y707 l0 (l0.length : Int) (wrap64 (x38_3 + 1))) = some r := by first | (rw [hy707]; with_reducible exact H) | (have H2_ := (Option.bind_some _ _).symm.trans H; rw [hy707]; with_reducible exact H2_) | (have H2_ := (Option.bind_some _ _).symm.trans H; with_reducible exact H2_) | with_reducible exact H | (rw [hy707]; exact H) | exact H
             have Ny707 := Aside0.mk hy707
             clear hy707
             have H' := Aside0.mk H
             clear H
             have p705 : 0 ≤ (x38_3 : Int) := of_decide_eq_true (by first | (with_reducible assumption) | assumption)
             have q705 : x38_3 < (l0.length : Int) := of_decide_eq_true (by first | (with_reducible assumption) | assumption)
             obtain ⟨ad705, e705, hx705_0, hx705_1, hx705_2, hx705_3, hx705_4, hx705_5, hx705_6, hx705_7, hx705_8⟩ := at_T48 HR0.out x38_3 p705 q705
             cases e705
             replace hx705_0 := (HB.out.cell (World.block_lt_of_cell? w _ hx705_0)).trans hx705_0
             replace hx705_1 := (HB.out.cell (World.block_lt_of_cell? w _ hx705_1)).trans hx705_1
             replace hx705_2 := (HB.out.cell (World.block_lt_of_cell? w _ hx705_2)).trans hx705_2
             replace hx705_3 := (HB.out.cell (World.block_lt_of_cell? w _ hx705_3)).trans hx705_3
             replace hx705_4 := (HB.out.cell (World.block_lt_of_cell? w _ hx705_4)).trans hx705_4
             replace hx705_5 := (HB.out.cell (World.block_lt_of_cell? w _ hx705_5)).trans hx705_5
             replace hx705_6 := (HB.out.cell (World.block_lt_of_cell? w _ hx705_6)).trans hx705_6
             replace hx705_7 := (HB.out.cell (World.block_lt_of_cell? w _ hx705_7)).trans hx705_7
             replace hx705_8 := (HB.out.cell (World.block_lt_of_cell? w _ hx705_8)).trans hx705_8
             replace p705 := eq_true p705
             replace q705 := eq_true q705
             go_wp2_with (first | ((with_reducible refine gate_dst (N := 11) rfl ?_); (try (refine gate_guard (by rfl) ?_; dsimp only)); refine box_event ?hg (N := 11) ?hd (cs := #[.string (⟨#[]⟩ : ByteArray), .int .i64 0, .int .i64 0, .string (⟨#[]⟩ : ByteArray), .int .i64 0, .int .i64 0, .int .i64 0, .int .i64 0, .bool false]) (t := 48) ?hr ?_; (case hd => rfl); (case hg => rfl); (case hr => first | (go_simp; done) | (go_simp; rfl)); intro gb706 hg w26 hbox hb; have BK706 := Aside0.mk (hbox); have GW706 := hz_ hg HB; have GE706 := hz_ hg HB; replace HO_9 := Aside0.mk (Kd.R_below (by (with_reducible repeat (first | apply Kd.R_alloc | apply Kd.R_drewN | apply Kd.R_drew)); exact HO_9.out) hb); replace HB := hs HB hb; clear hb hbox hg; obtain ⟨hcz27_0, hcz27_1, hcz27_2, hcz27_3, hcz27_4, hcz27_5, hcz27_6, hcz27_7, hcz27_8⟩ := bc9 BK706.out; obtain ⟨hfz27_0, hfz27_1, hfz27_2, hfz27_3, hfz27_4, hfz27_5, hfz27_6, hfz27_7, hfz27_8⟩ := bf9 BK706.out) | ((with_reducible refine gate_builtin (b := .append) (xs := #[.tmp 42, .tmp 44]) rfl ?_); (try (refine gate_guard (by rfl) ?_; dsimp only)); at_builtin; refine Kd.R_append k49 (w0 := w) w.heap.size rfl (.tmp 42) (.tmp 44) 44 49 (.agg #[(.string ⟨#[]⟩), (.int .i64 0), (.int .i64 0), (.string ⟨#[]⟩), (.int .i64 0), (.int .i64 0), (.int .i64 0), (.int .i64 0), (.bool false)]) 88 rfl Try.underlying44 info49 rfl (by decide) (by omega) u9 x9_3 (⟨(rd_T48 l0 x38_3).f0, (rd_T48 l0 x38_3).f1, (rd_T48 l0 x38_3).f2, (rd_T48 l0 x38_3).f3, (⟨(rd_T48 l0 x38_3).f4.f0, (rd_T48 l0 x38_3).f4.f1⟩ : S46), (⟨(rd_T48 l0 x38_3).f5.f0, (rd_T48 l0 x38_3).f5.f1⟩ : S46), (rd_T48 l0 x38_3).f6⟩ : S49) [.string ((rd_T48 l0 x38_3).f0), .int .i64 ((rd_T48 l0 x38_3).f1), .int .i64 ((rd_T48 l0 x38_3).f2), .string ((rd_T48 l0 x38_3).f3), .int .i64 ((rd_T48 l0 x38_3).f4.f0), .int .i64 ((rd_T48 l0 x38_3).f4.f1), .int .i64 ((rd_T48 l0 x38_3).f5.f0), .int .i64 ((rd_T48 l0 x38_3).f5.f1), .bool ((rd_T48 l0 x38_3).f6)] (fun _ => True) (fun _ => False) rfl (by first | (go_simp; done) | (go_simp; rfl)) ?aP (fun _ hk => hk.elim) ?aF ?aO ?aB ?aS ?aL ?_; (case aP => exact k49_mkM _ _ _ (⟨(rd_T48 l0 x38_3).f0, (rd_T48 l0 x38_3).f1, (rd_T48 l0 x38_3).f2, (rd_T48 l0 x38_3).f3, (⟨(rd_T48 l0 x38_3).f4.f0, (rd_T48 l0 x38_3).f4.f1⟩ : S46), (⟨(rd_T48 l0 x38_3).f5.f0, (rd_T48 l0 x38_3).f5.f1⟩ : S46), (rd_T48 l0 x38_3).f6⟩ : S49)); (case aB => exact (by repeat first | (with_reducible exact HB.out) | refine bl1 ?_ | (with_reducible refine bset ?_ ‹_›) | exact HB.out)); (case aF => exact (fun _ _ => trivial)); (case aO => exact (by (with_reducible repeat (first | apply Kd.R_alloc | apply Kd.R_drewN | apply Kd.R_drew)); exact Kd.R_mono (Kd.R_far (p := ⟨gb706, 8, none⟩) (Kd.R_far (p := ⟨gb706, 7, none⟩) (Kd.R_far (p := ⟨gb706, 6, none⟩) (Kd.R_far (p := ⟨gb706, 5, none⟩) (Kd.R_far (p := ⟨gb706, 4, none⟩) (Kd.R_far (p := ⟨gb706, 3, none⟩) (Kd.R_far (p := ⟨gb706, 2, none⟩) (Kd.R_far (p := ⟨gb706, 1, none⟩) (Kd.R_far (p := ⟨gb706, 0, none⟩) (Kd.R_types HO_9.out BK706.out (by decide)) (fun _ hk => hk.2) (.string ((rd_T48 l0 x38_3).f0))) (fun _ hk => hk.2) (.int .i64 ((rd_T48 l0 x38_3).f1))) (fun _ hk => hk.2) (.int .i64 ((rd_T48 l0 x38_3).f2))) (fun _ hk => hk.2) (.string ((rd_T48 l0 x38_3).f3))) (fun _ hk => hk.2) (.int .i64 ((rd_T48 l0 x38_3).f4.f0))) (fun _ hk => hk.2) (.int .i64 ((rd_T48 l0 x38_3).f4.f1))) (fun _ hk => hk.2) (.int .i64 ((rd_T48 l0 x38_3).f5.f0))) (fun _ hk => hk.2) (.int .i64 ((rd_T48 l0 x38_3).f5.f1))) (fun _ hk => hk.2) (.bool ((rd_T48 l0 x38_3).f6))) (fun _ hk => trivial))); (case aS => exact (below_size (by repeat first | (with_reducible exact HB.out) | refine bl1 ?_ | (with_reducible refine bset ?_ ‹_›) | exact HB.out))); (case aL => have := LMc25.out; omega); intro v708 w28 ho hb hg hat; rw [← Ny707.out] at ho; have HO709 := Aside0.mk (ho); replace BK706 := Aside0.mk (blk_grown (g := gb706) (o := .cells #[.string ((rd_T48 l0 x38_3).f0), .int .i64 ((rd_T48 l0 x38_3).f1), .int .i64 ((rd_T48 l0 x38_3).f2), .string ((rd_T48 l0 x38_3).f3), .int .i64 ((rd_T48 l0 x38_3).f4.f0), .int .i64 ((rd_T48 l0 x38_3).f4.f1), .int .i64 ((rd_T48 l0 x38_3).f5.f0), .int .i64 ((rd_T48 l0 x38_3).f5.f1), .bool ((rd_T48 l0 x38_3).f6)] 48 (0, 0)) (by exact rq BK706.out (by rfl)) hg (Kd.R_ne HO_9.out BK706.out (by decide))); replace HB := Aside0.mk (hb); clear HO_9; clear ho hb hg hat))
             go_roundg k3
             case measure => have := HJ3.out; have := HK2.out; have := HK3.out; omega
             case rel => exact ⟨(y707), (wrap64 (x38_3 + 1)), (by first | rfl | (simp; done) | (simp [*]; done)), H', ⟨by have := HJ3.out; have := HK2.out; have := HK3.out; omega⟩, ⟨by (with_reducible repeat (first | apply Kd.R_alloc | apply Kd.R_drewN | apply Kd.R_drew)); exact HO709.out⟩, ⟨by repeat first | (with_reducible exact HB.out) | (with_reducible refine bset ?_ ‹_›) | refine bl1 ?_ | exact HB.out⟩⟩
            ·
             rw [if_neg c25] at H
             exact absurd H (by simp)
           ·
            rw [if_neg c24] at H
            exact absurd H (by simp)
          ·
           rw [if_neg c23] at H
           exact absurd H (by simp)
         ·
          rw [if_neg c22] at H
          have c22b0 : decide (x38_3 < (l0.length : Int)) = false := decide_eq_false c22
          clear c22
          replace H := Option.bind_eq_some_iff.mp H
          obtain ⟨⟨t710, t711⟩, A290, H⟩ := H
          (try dsimp only at H)
          have A29 := Aside0.mk A290
          clear A290
          replace H := Option.bind_eq_some_iff.mp H
          obtain ⟨⟨t714, t715⟩, A300, H⟩ := H
          (try dsimp only at H)
          have A30 := Aside0.mk A300
          clear A300
          by_cases c31 : t711 = t715
          ·
           rw [if_pos c31] at H
           have c31b0 : (t711 == t715) = true := beq_iff_eq.mpr c31
           have c31b1 : (t711 != t715) = false := bne_eq_false_iff_eq.mpr c31
           clear c31
           replace H := Option.bind_eq_some_iff.mp H
           obtain ⟨t718, A320, H⟩ := H
           (try dsimp only at H)
           have A32 := Aside0.mk A320
           clear A320
           by_cases c33 : t718 = true
           ·
            subst c33
            rw [if_pos rfl] at H
            replace H := Option.bind_eq_some_iff.mp H
            obtain ⟨t719, A340, H⟩ := H
            (try dsimp only at H)
            have A34 := Aside0.mk A340
            clear A340
            obtain rfl := Option.some.inj H
            go_wp2_with (first | ((with_reducible refine gate_callee (f := 22) rfl ?_); refine goesL_ (some 51) rfl rfl Try.func22 (by kernel_rfl) rfl #[.slice A0 l0.length c0, .slice A1 l1.length c1, .int .i64 a2] rfl (by (try simp only [mp]); first | done | rfl | (simp only [ld]; rfl)) ?_; (with_reducible refine (message_Events.calls k3 _ _ l0 _ _ l1 a2 t710 t711 _ ?side1 ?side2 ?side3 ?side4 A29.out).mono ?_); (case side1 => repeat (first | exact (Kd.C_below HR0.out HB.out) | (with_reducible refine Kd.C_alloc ?_ _) | (with_reducible refine Kd.C_drewN ?_ _) | (with_reducible refine Kd.C_drew ?_))); (case side2 => exact HC0.out); (case side3 => repeat (first | exact (Kd.C_below HR1.out HB.out) | (with_reducible refine Kd.C_alloc ?_ _) | (with_reducible refine Kd.C_drewN ?_ _) | (with_reducible refine Kd.C_drew ?_))); (case side4 => exact HC1.out); rintro e w35 ⟨v712, rfl, ho0, hb⟩; refine ⟨_, rfl, ?_⟩; have HO713 := Aside0.mk (Kd.R_lower ho0 (below_size (bl HB.out))); replace HO_9 := Aside0.mk (Kd.R_below (by (with_reducible repeat (first | apply Kd.R_alloc | apply Kd.R_drewN | apply Kd.R_drew)); exact HO_9.out) hb); replace HB := hs HB hb; (try clear hb); (try clear hb2); (try clear hk); (try clear hi); (try clear ho0); obtain ⟨Ao36, co36, eo36⟩ := Kd.R_slice HO_9.out; subst eo36) | ((with_reducible refine gate_callee (f := 23) rfl ?_); refine goesL_ (some 58) rfl rfl Try.func23 (by kernel_rfl) rfl #[.slice Ao36 x9_3.length co36, .slice A1 l1.length c1, .int .i64 a2] rfl (by (try simp only [mp]); first | done | rfl | (simp only [ld]; rfl)) ?_; (with_reducible refine (serinetteref21_Events.calls k3 _ _ x9_3 _ _ l1 a2 t714 t715 _ ?side1 ?side2 ?side3 ?side4 A30.out).mono ?_); (case side1 => repeat (first | exact (Kd.R_reads' HO_9.out).2.2 | (with_reducible refine Kd.C_alloc ?_ _) | (with_reducible refine Kd.C_drewN ?_ _) | (with_reducible refine Kd.C_drew ?_))); (case side2 => exact (Kd.R_reads' HO_9.out).2.1); (case side3 => repeat (first | exact (Kd.C_below HR1.out HB.out) | (with_reducible refine Kd.C_alloc ?_ _) | (with_reducible refine Kd.C_drewN ?_ _) | (with_reducible refine Kd.C_drew ?_))); (case side4 => exact HC1.out); rintro e w37 ⟨v716, rfl, ho0, hb⟩; refine ⟨_, rfl, ?_⟩; have HO717 := Aside0.mk (Kd.R_lower (Kd.R_new' ho0 (Kd.R_lt (by (with_reducible repeat (first | apply Kd.R_alloc | apply Kd.R_drewN | apply Kd.R_drew)); exact HO713.out))) (below_size (bl HB.out))); replace HO_9 := Aside0.mk (Kd.R_below (by (with_reducible repeat (first | apply Kd.R_alloc | apply Kd.R_drewN | apply Kd.R_drew)); exact HO_9.out) hb); replace HO713 := Aside0.mk (Kd.R_elder' (by (with_reducible repeat (first | apply Kd.R_alloc | apply Kd.R_drewN | apply Kd.R_drew)); exact HO713.out) (Kd.R_base ho0) hb); replace HB := hs HB hb; (try clear hb); (try clear hb2); (try clear hk); (try clear hi); (try clear ho0); obtain ⟨Ao38, co38, eo38⟩ := Kd.R_slice HO713.out; subst eo38; obtain ⟨Ao39, co39, eo39⟩ := Kd.R_slice HO717.out; subst eo39) | (go_at_call 24; (with_reducible refine (serinetteref01_SameEvents.calls k3 _ _ t710 _ _ t714 true _ ?side1 ?side2 ?side3 ?side4 A32.out).mono ?_); (case side1 => repeat (first | exact (Kd.R_reads' HO713.out).2.2 | (with_reducible refine Kd.C_alloc ?_ _) | (with_reducible refine Kd.C_drewN ?_ _) | (with_reducible refine Kd.C_drew ?_))); (case side2 => exact (Kd.R_reads' HO713.out).2.1); (case side3 => repeat (first | exact (Kd.R_reads' HO717.out).2.2 | (with_reducible refine Kd.C_alloc ?_ _) | (with_reducible refine Kd.C_drewN ?_ _) | (with_reducible refine Kd.C_drew ?_))); (case side4 => exact (Kd.R_reads' HO717.out).2.1); rintro e w' ⟨rfl, ⟨nd, rfl⟩⟩) | (go_at_call 8; (with_reducible refine (serinettelaw21_awake.calls k3  t719 _ A34.out).mono ?_); rintro e w40 ⟨rfl, hb⟩; replace HO_9 := Aside0.mk (Kd.R_below (by (with_reducible repeat (first | apply Kd.R_alloc | apply Kd.R_drewN | apply Kd.R_drew)); exact HO_9.out) hb); replace HO713 := Aside0.mk (Kd.R_below (by (with_reducible repeat (first | apply Kd.R_alloc | apply Kd.R_drewN | apply Kd.R_drew)); exact HO713.out) hb); replace HO717 := Aside0.mk (Kd.R_below (by (with_reducible repeat (first | apply Kd.R_alloc | apply Kd.R_drewN | apply Kd.R_drew)); exact HO717.out) hb); replace HB := hs HB hb; (try clear hb); (try clear hb2); (try clear hk); (try clear hi)))
            go_ret
            exact ⟨by first | rfl | (simp [errW_none, errW_some] <;> rfl) | (simp [*, errW_none, errW_some] <;> rfl), (bl HB.out)⟩
           ·
            replace c33 := Bool.eq_false_iff.mpr c33
            subst c33
            rw [if_neg (show ¬ (false = true) by decide)] at H
            obtain rfl := Option.some.inj H
            go_wp2_with (first | ((with_reducible refine gate_callee (f := 22) rfl ?_); refine goesL_ (some 51) rfl rfl Try.func22 (by kernel_rfl) rfl #[.slice A0 l0.length c0, .slice A1 l1.length c1, .int .i64 a2] rfl (by (try simp only [mp]); first | done | rfl | (simp only [ld]; rfl)) ?_; (with_reducible refine (message_Events.calls k3 _ _ l0 _ _ l1 a2 t710 t711 _ ?side1 ?side2 ?side3 ?side4 A29.out).mono ?_); (case side1 => repeat (first | exact (Kd.C_below HR0.out HB.out) | (with_reducible refine Kd.C_alloc ?_ _) | (with_reducible refine Kd.C_drewN ?_ _) | (with_reducible refine Kd.C_drew ?_))); (case side2 => exact HC0.out); (case side3 => repeat (first | exact (Kd.C_below HR1.out HB.out) | (with_reducible refine Kd.C_alloc ?_ _) | (with_reducible refine Kd.C_drewN ?_ _) | (with_reducible refine Kd.C_drew ?_))); (case side4 => exact HC1.out); rintro e w41 ⟨v712, rfl, ho0, hb⟩; refine ⟨_, rfl, ?_⟩; have HO713 := Aside0.mk (Kd.R_lower ho0 (below_size (bl HB.out))); replace HO_9 := Aside0.mk (Kd.R_below (by (with_reducible repeat (first | apply Kd.R_alloc | apply Kd.R_drewN | apply Kd.R_drew)); exact HO_9.out) hb); replace HB := hs HB hb; (try clear hb); (try clear hb2); (try clear hk); (try clear hi); (try clear ho0); obtain ⟨Ao42, co42, eo42⟩ := Kd.R_slice HO_9.out; subst eo42) | ((with_reducible refine gate_callee (f := 23) rfl ?_); refine goesL_ (some 58) rfl rfl Try.func23 (by kernel_rfl) rfl #[.slice Ao42 x9_3.length co42, .slice A1 l1.length c1, .int .i64 a2] rfl (by (try simp only [mp]); first | done | rfl | (simp only [ld]; rfl)) ?_; (with_reducible refine (serinetteref21_Events.calls k3 _ _ x9_3 _ _ l1 a2 t714 t715 _ ?side1 ?side2 ?side3 ?side4 A30.out).mono ?_); (case side1 => repeat (first | exact (Kd.R_reads' HO_9.out).2.2 | (with_reducible refine Kd.C_alloc ?_ _) | (with_reducible refine Kd.C_drewN ?_ _) | (with_reducible refine Kd.C_drew ?_))); (case side2 => exact (Kd.R_reads' HO_9.out).2.1); (case side3 => repeat (first | exact (Kd.C_below HR1.out HB.out) | (with_reducible refine Kd.C_alloc ?_ _) | (with_reducible refine Kd.C_drewN ?_ _) | (with_reducible refine Kd.C_drew ?_))); (case side4 => exact HC1.out); rintro e w43 ⟨v716, rfl, ho0, hb⟩; refine ⟨_, rfl, ?_⟩; have HO717 := Aside0.mk (Kd.R_lower (Kd.R_new' ho0 (Kd.R_lt (by (with_reducible repeat (first | apply Kd.R_alloc | apply Kd.R_drewN | apply Kd.R_drew)); exact HO713.out))) (below_size (bl HB.out))); replace HO_9 := Aside0.mk (Kd.R_below (by (with_reducible repeat (first | apply Kd.R_alloc | apply Kd.R_drewN | apply Kd.R_drew)); exact HO_9.out) hb); replace HO713 := Aside0.mk (Kd.R_elder' (by (with_reducible repeat (first | apply Kd.R_alloc | apply Kd.R_drewN | apply Kd.R_drew)); exact HO713.out) (Kd.R_base ho0) hb); replace HB := hs HB hb; (try clear hb); (try clear hb2); (try clear hk); (try clear hi); (try clear ho0); obtain ⟨Ao44, co44, eo44⟩ := Kd.R_slice HO713.out; subst eo44; obtain ⟨Ao45, co45, eo45⟩ := Kd.R_slice HO717.out; subst eo45) | (go_at_call 24; (with_reducible refine (serinetteref01_SameEvents.calls k3 _ _ t710 _ _ t714 false _ ?side1 ?side2 ?side3 ?side4 A32.out).mono ?_); (case side1 => repeat (first | exact (Kd.R_reads' HO713.out).2.2 | (with_reducible refine Kd.C_alloc ?_ _) | (with_reducible refine Kd.C_drewN ?_ _) | (with_reducible refine Kd.C_drew ?_))); (case side2 => exact (Kd.R_reads' HO713.out).2.1); (case side3 => repeat (first | exact (Kd.R_reads' HO717.out).2.2 | (with_reducible refine Kd.C_alloc ?_ _) | (with_reducible refine Kd.C_drewN ?_ _) | (with_reducible refine Kd.C_drew ?_))); (case side4 => exact (Kd.R_reads' HO717.out).2.1); rintro e w' ⟨rfl, ⟨nd, rfl⟩⟩))
            go_ret
            exact ⟨by first | rfl | (simp [errW_none, errW_some] <;> rfl) | (simp [*, errW_none, errW_some] <;> rfl), (bl HB.out)⟩
          ·
           rw [if_neg c31] at H
           have c31b0 : (t711 == t715) = false := beq_eq_false_iff_ne.mpr c31
           have c31b1 : (t711 != t715) = true := bne_iff_ne.mpr c31
           obtain rfl := Option.some.inj H
           go_wp2_with (first | ((with_reducible refine gate_callee (f := 22) rfl ?_); refine goesL_ (some 51) rfl rfl Try.func22 (by kernel_rfl) rfl #[.slice A0 l0.length c0, .slice A1 l1.length c1, .int .i64 a2] rfl (by (try simp only [mp]); first | done | rfl | (simp only [ld]; rfl)) ?_; (with_reducible refine (message_Events.calls k3 _ _ l0 _ _ l1 a2 t710 t711 _ ?side1 ?side2 ?side3 ?side4 A29.out).mono ?_); (case side1 => repeat (first | exact (Kd.C_below HR0.out HB.out) | (with_reducible refine Kd.C_alloc ?_ _) | (with_reducible refine Kd.C_drewN ?_ _) | (with_reducible refine Kd.C_drew ?_))); (case side2 => exact HC0.out); (case side3 => repeat (first | exact (Kd.C_below HR1.out HB.out) | (with_reducible refine Kd.C_alloc ?_ _) | (with_reducible refine Kd.C_drewN ?_ _) | (with_reducible refine Kd.C_drew ?_))); (case side4 => exact HC1.out); rintro e w46 ⟨v712, rfl, ho0, hb⟩; refine ⟨_, rfl, ?_⟩; have HO713 := Aside0.mk (Kd.R_lower ho0 (below_size (bl HB.out))); replace HO_9 := Aside0.mk (Kd.R_below (by (with_reducible repeat (first | apply Kd.R_alloc | apply Kd.R_drewN | apply Kd.R_drew)); exact HO_9.out) hb); replace HB := hs HB hb; (try clear hb); (try clear hb2); (try clear hk); (try clear hi); (try clear ho0); obtain ⟨Ao47, co47, eo47⟩ := Kd.R_slice HO_9.out; subst eo47) | ((with_reducible refine gate_callee (f := 23) rfl ?_); refine goesL_ (some 58) rfl rfl Try.func23 (by kernel_rfl) rfl #[.slice Ao47 x9_3.length co47, .slice A1 l1.length c1, .int .i64 a2] rfl (by (try simp only [mp]); first | done | rfl | (simp only [ld]; rfl)) ?_; (with_reducible refine (serinetteref21_Events.calls k3 _ _ x9_3 _ _ l1 a2 t714 t715 _ ?side1 ?side2 ?side3 ?side4 A30.out).mono ?_); (case side1 => repeat (first | exact (Kd.R_reads' HO_9.out).2.2 | (with_reducible refine Kd.C_alloc ?_ _) | (with_reducible refine Kd.C_drewN ?_ _) | (with_reducible refine Kd.C_drew ?_))); (case side2 => exact (Kd.R_reads' HO_9.out).2.1); (case side3 => repeat (first | exact (Kd.C_below HR1.out HB.out) | (with_reducible refine Kd.C_alloc ?_ _) | (with_reducible refine Kd.C_drewN ?_ _) | (with_reducible refine Kd.C_drew ?_))); (case side4 => exact HC1.out); rintro e w48 ⟨v716, rfl, ho0, hb⟩; refine ⟨_, rfl, ?_⟩; have HO717 := Aside0.mk (Kd.R_lower (Kd.R_new' ho0 (Kd.R_lt (by (with_reducible repeat (first | apply Kd.R_alloc | apply Kd.R_drewN | apply Kd.R_drew)); exact HO713.out))) (below_size (bl HB.out))); replace HO_9 := Aside0.mk (Kd.R_below (by (with_reducible repeat (first | apply Kd.R_alloc | apply Kd.R_drewN | apply Kd.R_drew)); exact HO_9.out) hb); replace HO713 := Aside0.mk (Kd.R_elder' (by (with_reducible repeat (first | apply Kd.R_alloc | apply Kd.R_drewN | apply Kd.R_drew)); exact HO713.out) (Kd.R_base ho0) hb); replace HB := hs HB hb; (try clear hb); (try clear hb2); (try clear hk); (try clear hi); (try clear ho0)))
           go_ret
           exact ⟨by first | rfl | (simp [errW_none, errW_some] <;> rfl) | (simp [*, errW_none, errW_some] <;> rfl), (bl HB.out)⟩
end Go.Proofs.Ytlaidcoickeihaa.SEventsMade
namespace Go.Proofs.Ytlaidcoickeihaa.SEventsMade
open Go.RowKit Go.Proofs.Ytlaidcoickeihaa.Wd.PrintWords Go.Proofs.Ytlaidcoickeihaa.Wd.PrintLast Go.Proofs.Ytlaidcoickeihaa.Plain Go.Proofs.Ytlaidcoickeihaa.Nb
theorem ev_at {α : Type} {g : Nat → Option α} {r : α} (n : Nat) (h : ∀ k, g (k + n) = some r) : Ev g r := ⟨n, fun k hk => by obtain ⟨m, rfl⟩ : ∃ m, k = m + n := ⟨k - n, by omega⟩; exact h m⟩
def st0 : Int × List Int × List Int := (0, [], List.replicate 512 0)
theorem read_is (k : Nat) (b : List Int) (h : b.length ≤ 100000) (hx : ∀ x ∈ b, 0 ≤ x ∧ x ≤ 255) : message_Read.f k b = some (rdRun st0 b).2 := by
  unfold message_Read.f
  rw [if_pos ⟨h, hx⟩]
  rfl
theorem tl_on : (⟨#[111, 110]⟩ : ByteArray).toList = [111, 110] := by first | decide +kernel | rfl | kernel_rfl
theorem tl_off : (⟨#[111, 102, 102]⟩ : ByteArray).toList = [111, 102, 102] := by first | decide +kernel | rfl | kernel_rfl
theorem awake_is (k : Nat) : serinettelaw21_awake.f k = some true := by
  unfold serinettelaw21_awake.f
  rw [read_is k _ (by simp) (by intro x hx; simp at hx; omega)]
  have : (rdRun st0 [144, 60, 100, 62, 0]).2 = [⟨⟨#[111, 110]⟩, 0, 60, 100⟩, ⟨⟨#[111, 102, 102]⟩, 0, 62, 64⟩] := by
    kernel_rfl
  rw [this]
  simp [rd_T37, tl_on, tl_off]
def validB (m : S37) : Bool :=
  decide (0 ≤ m.f1) && decide (m.f1 ≤ 15) && decide (0 ≤ m.f2) && decide (0 ≤ m.f3) &&
  (if m.f0.toList = ([111, 110] : List UInt8) then decide (m.f2 ≤ 127) && decide (1 ≤ m.f3) && decide (m.f3 ≤ 127)
   else if m.f0.toList = ([111, 102, 102] : List UInt8) then decide (m.f2 ≤ 127) && decide (m.f3 ≤ 127)
   else if m.f0.toList = ([99, 111, 110, 116, 114, 111, 108] : List UInt8) then decide (m.f2 ≤ 127) && decide (m.f3 ≤ 127)
   else if m.f0.toList = ([98, 101, 110, 100] : List UInt8) then decide (m.f2 = 0) && decide (m.f3 ≤ 16383)
   else if m.f0.toList = ([119, 105, 100, 101] : List UInt8) then decide (m.f2 ≤ 31) && decide (m.f3 ≤ 16383)
   else false)
theorem within_is (a b : Int) : serinetteref21_within.f a b = some (decide (0 ≤ a) && decide (a ≤ b)) := by
  unfold serinetteref21_within.f
  by_cases h : a ≥ 0
  · rw [if_pos h]; simp [show 0 ≤ a from h]
  · rw [if_neg h]; simp [show ¬ 0 ≤ a from h]
theorem rvalid_is (k : Nat) (m : S37) : serinetteref21_Valid.f (k + 1) m.f0 m.f1 m.f2 m.f3 = some (validB m) := by
  obtain ⟨f0, f1, f2, f3⟩ := m
  unfold serinetteref21_Valid.f validB
  simp only [serinetteref21_Valid.j0, within_is, Option.bind_some]
  by_cases h1 : 0 ≤ f1
  · by_cases h2 : f1 ≤ 15
    · simp only [h1, h2, decide_true, Bool.and_self, if_true, Bool.true_and]
      by_cases e0 : f0.toList = ([111, 110] : List UInt8)
      · simp only [e0, if_true, if_false]
        by_cases c : 0 ≤ f2 <;> by_cases d : f2 ≤ 127 <;> by_cases g : f3 ≥ 1 <;> by_cases q : 0 ≤ f3 <;> simp [c, d, g, q] <;> omega
      by_cases e1 : f0.toList = ([111, 102, 102] : List UInt8)
      · simp only [e1, if_true, beq_self_eq_true]
        by_cases c : 0 ≤ f2 <;> by_cases d : f2 ≤ 127 <;> by_cases q : 0 ≤ f3 <;> simp [c, d, q]
      by_cases e2 : f0.toList = ([99, 111, 110, 116, 114, 111, 108] : List UInt8)
      · simp only [e2, if_true, beq_self_eq_true]
        by_cases c : 0 ≤ f2 <;> by_cases d : f2 ≤ 127 <;> by_cases q : 0 ≤ f3 <;> simp [c, d, q]
      have e2b : (f0.toList == ([99, 111, 110, 116, 114, 111, 108] : List UInt8)) = false := beq_eq_false_iff_ne.mpr e2
      by_cases e3 : f0.toList = ([98, 101, 110, 100] : List UInt8)
      · simp only [e3]
        by_cases d : f2 = 0
        · by_cases q : 0 ≤ f3 <;> simp [d, q]
        · by_cases c : 0 ≤ f2 <;> by_cases q : 0 ≤ f3 <;> simp [c, d, q]
      by_cases e4 : f0.toList = ([119, 105, 100, 101] : List UInt8)
      · simp only [e4]
        by_cases c : 0 ≤ f2 <;> by_cases d : f2 ≤ 31 <;> by_cases q : 0 ≤ f3 <;> simp [c, d, q]
      · simp only [e0, e1, e2, e3, e4, e2b, if_false, Bool.false_eq_true, Bool.and_false]
    · simp [h1, h2]
  · simp [h1]
theorem ok_of {m : S37} (h : validB m = true) : (0 ≤ m.f2 ∧ m.f2 ≤ 127) ∧ 0 ≤ m.f3 ∧ m.f3 ≤ 16383 := by
  obtain ⟨f0, f1, f2, f3⟩ := m
  unfold validB at h
  simp only [Bool.and_eq_true, decide_eq_true_eq] at h
  obtain ⟨⟨⟨⟨h1, h2⟩, h3⟩, h4⟩, h5⟩ := h
  simp only []
  repeat' split at h5
  all_goals first
    | (simp only [Bool.and_eq_true, decide_eq_true_eq] at h5; omega)
    | cases h5
def okF (f0 : ByteArray) (p q r s : Int) : Bool := (f0.toList == ([111, 110] : List UInt8) || f0.toList == ([99, 111, 110, 116, 114, 111, 108] : List UInt8) || f0.toList == ([98, 101, 110, 100] : List UInt8) || f0.toList == ([119, 105, 100, 101] : List UInt8) || f0.toList == ([107, 101, 121] : List UInt8)) && isQ p q && isQ r s
def ok48 (m : S48) : Bool := okF m.f0 m.f4.f0 m.f4.f1 m.f5.f0 m.f5.f1
def ok49 (m : S49) : Bool := okF m.f0 m.f4.f0 m.f4.f1 m.f5.f0 m.f5.f1
def In (p q r s : Int) : Prop := In64 p ∧ In64 q ∧ In64 r ∧ In64 s
def stepS48 (a2 : Int) (x : S37) (m : S48) : List S77 := if fitsOf m.f0 m.f1 m.f2 x.f0 x.f1 x.f2 = true then (if (mapOf0 m.f0 m.f4.f0 m.f4.f1 m.f5.f0 m.f5.f1 m.f6 x.f0 x.f2 x.f3).2 = true then [⟨a2, m.f3, ⟨(mapOf0 m.f0 m.f4.f0 m.f4.f1 m.f5.f0 m.f5.f1 m.f6 x.f0 x.f2 x.f3).1.1, (mapOf0 m.f0 m.f4.f0 m.f4.f1 m.f5.f0 m.f5.f1 m.f6 x.f0 x.f2 x.f3).1.2⟩⟩] else []) else []
theorem lenS48 (a2 : Int) (x : S37) (m : S48) : (stepS48 a2 x m).length ≤ 1 := by
  unfold stepS48
  split
  · split <;> simp
  · simp
theorem S48_l2 (l0 : List S48) (l1 : List S37) (a2 : Int) (x : S37) (ix : Int) (hl : l0.length ≤ 1000) (hm : ∀ m ∈ l0, In m.f4.f0 m.f4.f1 m.f5.f0 m.f5.f1) (hx : In64 x.f2 ∧ In64 x.f3) (r : List S77 × Int) :
    ∀ d (j : Nat) (acc : List S77), l0.length - j = d → j ≤ l0.length → acc.length + (l0.length - j) ≤ 1000000 → Ev (fun k => message_Events.l1 k l0 a2 (acc ++ (l0.drop j).flatMap (stepS48 a2 x)) l1 (l1.length : Int) (wrap64 (ix + 1))) r →
      Ev (fun k => message_Events.l2 k l0 a2 acc l1 (l1.length : Int) ix l0 (l0.length : Int) (j : Int) x.f0 x.f1 x.f2 x.f3) r := by
  intro d
  induction d with
  | zero =>
    intro j acc hd hj ha h
    refine Ev.step (fun k => message_Events.l2.eq_2 ..) ?_
    simp only [if_neg (show ¬ ((j : Int) < (l0.length : Int)) by omega)]
    rw [List.drop_of_length_le (by omega), List.flatMap_nil, List.append_nil] at h
    exact h
  | succ d ih =>
    intro j acc hd hj ha h
    have hlt : j < l0.length := by omega
    have hw : wrap64 ((j : Int) + 1) = ((j + 1 : Nat) : Int) := by unfold wrap64; omega
    have hr : rd_T48 l0 (j : Int) = l0[j] := by simp [rd_T48, hlt]
    rw [List.drop_eq_getElem_cons hlt, List.flatMap_cons, ← List.append_assoc] at h
    have hn := hm l0[j] (List.getElem_mem hlt)
    generalize l0[j] = m at h hr hn
    refine Ev.step (fun k => message_Events.l2.eq_2 ..) ?_
    simp only [if_pos (show (j : Int) < (l0.length : Int) by omega), if_pos (show 0 ≤ (j : Int) by omega), hr, hw, message_Map_fits.f, Option.bind_some]
    have hin : In64 m.f4.f0 ∧ In64 m.f4.f1 ∧ In64 m.f5.f0 ∧ In64 m.f5.f1 ∧ In64 x.f2 ∧ In64 x.f3 := ⟨hn.1, hn.2.1, hn.2.2.1, hn.2.2.2, hx.1, hx.2⟩
    by_cases c : fitsOf m.f0 m.f1 m.f2 x.f0 x.f1 x.f2 = true
    · simp only [if_pos c, message_Map_value.f, mapOf, if_pos hin, Option.bind_some]
      by_cases c2 : (mapOf0 m.f0 m.f4.f0 m.f4.f1 m.f5.f0 m.f5.f1 m.f6 x.f0 x.f2 x.f3).2 = true
      · have e : stepS48 a2 x m = [⟨a2, m.f3, ⟨(mapOf0 m.f0 m.f4.f0 m.f4.f1 m.f5.f0 m.f5.f1 m.f6 x.f0 x.f2 x.f3).1.1, (mapOf0 m.f0 m.f4.f0 m.f4.f1 m.f5.f0 m.f5.f1 m.f6 x.f0 x.f2 x.f3).1.2⟩⟩] := by unfold stepS48; rw [if_pos c, if_pos c2]
        simp only [if_pos c2, if_pos (show acc.length < 3518437208883 by omega)]
        rw [e] at h
        exact ih (j + 1) _ (by omega) (by omega) (by simp only [List.length_append, List.length_singleton]; omega) h
      · have e : stepS48 a2 x m = [] := by unfold stepS48; rw [if_pos c, if_neg c2]
        simp only [if_neg c2]
        rw [e, List.append_nil] at h
        exact ih (j + 1) _ (by omega) (by omega) (by omega) h
    · have e : stepS48 a2 x m = [] := by unfold stepS48; rw [if_neg c]
      simp only [if_neg c]
      rw [e, List.append_nil] at h
      exact ih (j + 1) _ (by omega) (by omega) (by omega) h
theorem flatS48 (a2 : Int) (x : S37) (l : List S48) : (l.flatMap (stepS48 a2 x)).length ≤ l.length := by
  induction l with
  | nil => simp
  | cons m l ih => have := lenS48 a2 x m; simp only [List.flatMap_cons, List.length_append, List.length_cons]; omega
theorem S48_l1 (l0 : List S48) (l1 : List S37) (a2 : Int) (hl : l0.length ≤ 1000) (hl1 : l1.length ≤ 100) (hm : ∀ m ∈ l0, In m.f4.f0 m.f4.f1 m.f5.f0 m.f5.f1) (hx : ∀ x ∈ l1, In64 x.f2 ∧ In64 x.f3) :
    ∀ d (i : Nat) (acc : List S77), l1.length - i = d → i ≤ l1.length → acc.length + 1000 * (l1.length - i) ≤ 900000 →
      Ev (fun k => message_Events.l1 k l0 a2 acc l1 (l1.length : Int) (i : Int)) (acc ++ (l1.drop i).flatMap (fun x => l0.flatMap (stepS48 a2 x)), 0) := by
  intro d
  induction d with
  | zero =>
    intro i acc hd hi ha
    refine Ev.step (fun k => message_Events.l1.eq_2 ..) ?_
    simp only [if_neg (show ¬ ((i : Int) < (l1.length : Int)) by omega)]
    rw [List.drop_of_length_le (by omega), List.flatMap_nil, List.append_nil]
    exact Ev.now _
  | succ d ih =>
    intro i acc hd hi ha
    have hlt : i < l1.length := by omega
    have hw : wrap64 ((i : Int) + 1) = ((i + 1 : Nat) : Int) := by unfold wrap64; omega
    have hr : rd_T37 l1 (i : Int) = l1[i] := by simp [rd_T37, hlt]
    have hxi := hx l1[i] (List.getElem_mem hlt)
    rw [List.drop_eq_getElem_cons hlt, List.flatMap_cons, ← List.append_assoc]
    refine Ev.step (fun k => message_Events.l1.eq_2 ..) ?_
    simp only [if_pos (show (i : Int) < (l1.length : Int) by omega), if_pos (show 0 ≤ (i : Int) by omega), hr]
    have hfl := flatS48 a2 l1[i] l0
    refine S48_l2 l0 l1 a2 l1[i] (i : Int) hl hm hxi _ _ 0 acc rfl (Nat.zero_le _) (by omega) ?_
    rw [List.drop_zero, hw]
    exact ih (i + 1) _ (by omega) (by omega) (by simp only [List.length_append]; omega)
def stepS49 (a2 : Int) (x : S37) (m : S49) : List S77 := if fitsOf m.f0 m.f1 m.f2 x.f0 x.f1 x.f2 = true then (if (rmapOf0 m.f0 m.f4.f0 m.f4.f1 m.f5.f0 m.f5.f1 m.f6 x.f0 x.f2 x.f3).2 = true then [⟨a2, m.f3, ⟨(rmapOf0 m.f0 m.f4.f0 m.f4.f1 m.f5.f0 m.f5.f1 m.f6 x.f0 x.f2 x.f3).1.1, (rmapOf0 m.f0 m.f4.f0 m.f4.f1 m.f5.f0 m.f5.f1 m.f6 x.f0 x.f2 x.f3).1.2⟩⟩] else []) else []
theorem lenS49 (a2 : Int) (x : S37) (m : S49) : (stepS49 a2 x m).length ≤ 1 := by
  unfold stepS49
  split
  · split <;> simp
  · simp
theorem S49_l2 (l0 : List S49) (l1 : List S37) (a2 : Int) (x : S37) (ix : Int) (hl : l0.length ≤ 1000) (hm : ∀ m ∈ l0, In m.f4.f0 m.f4.f1 m.f5.f0 m.f5.f1) (hx : In64 x.f2 ∧ In64 x.f3) (r : List S77 × Int) :
    ∀ d (j : Nat) (acc : List S77), l0.length - j = d → j ≤ l0.length → acc.length + (l0.length - j) ≤ 1000000 → Ev (fun k => serinetteref21_Events.l1 k l0 a2 (acc ++ (l0.drop j).flatMap (stepS49 a2 x)) l1 (l1.length : Int) (wrap64 (ix + 1))) r →
      Ev (fun k => serinetteref21_Events.l2 k l0 a2 acc l1 (l1.length : Int) ix l0 (l0.length : Int) (j : Int) x.f0 x.f1 x.f2 x.f3) r := by
  intro d
  induction d with
  | zero =>
    intro j acc hd hj ha h
    refine Ev.step (fun k => serinetteref21_Events.l2.eq_2 ..) ?_
    simp only [if_neg (show ¬ ((j : Int) < (l0.length : Int)) by omega)]
    rw [List.drop_of_length_le (by omega), List.flatMap_nil, List.append_nil] at h
    exact h
  | succ d ih =>
    intro j acc hd hj ha h
    have hlt : j < l0.length := by omega
    have hw : wrap64 ((j : Int) + 1) = ((j + 1 : Nat) : Int) := by unfold wrap64; omega
    have hr : rd_T49 l0 (j : Int) = l0[j] := by simp [rd_T49, hlt]
    rw [List.drop_eq_getElem_cons hlt, List.flatMap_cons, ← List.append_assoc] at h
    have hn := hm l0[j] (List.getElem_mem hlt)
    generalize l0[j] = m at h hr hn
    refine Ev.step (fun k => serinetteref21_Events.l2.eq_2 ..) ?_
    simp only [if_pos (show (j : Int) < (l0.length : Int) by omega), if_pos (show 0 ≤ (j : Int) by omega), hr, hw, serinetteref21_fits.f, Option.bind_some]
    have hin : In64 m.f4.f0 ∧ In64 m.f4.f1 ∧ In64 m.f5.f0 ∧ In64 m.f5.f1 ∧ In64 x.f2 ∧ In64 x.f3 := ⟨hn.1, hn.2.1, hn.2.2.1, hn.2.2.2, hx.1, hx.2⟩
    by_cases c : fitsOf m.f0 m.f1 m.f2 x.f0 x.f1 x.f2 = true
    · simp only [if_pos c, serinetteref21_value.f, rmapOf, if_pos hin, Option.bind_some]
      by_cases c2 : (rmapOf0 m.f0 m.f4.f0 m.f4.f1 m.f5.f0 m.f5.f1 m.f6 x.f0 x.f2 x.f3).2 = true
      · have e : stepS49 a2 x m = [⟨a2, m.f3, ⟨(rmapOf0 m.f0 m.f4.f0 m.f4.f1 m.f5.f0 m.f5.f1 m.f6 x.f0 x.f2 x.f3).1.1, (rmapOf0 m.f0 m.f4.f0 m.f4.f1 m.f5.f0 m.f5.f1 m.f6 x.f0 x.f2 x.f3).1.2⟩⟩] := by unfold stepS49; rw [if_pos c, if_pos c2]
        simp only [if_pos c2, if_pos (show acc.length < 3518437208883 by omega)]
        rw [e] at h
        exact ih (j + 1) _ (by omega) (by omega) (by simp only [List.length_append, List.length_singleton]; omega) h
      · have e : stepS49 a2 x m = [] := by unfold stepS49; rw [if_pos c, if_neg c2]
        simp only [if_neg c2]
        rw [e, List.append_nil] at h
        exact ih (j + 1) _ (by omega) (by omega) (by omega) h
    · have e : stepS49 a2 x m = [] := by unfold stepS49; rw [if_neg c]
      simp only [if_neg c]
      rw [e, List.append_nil] at h
      exact ih (j + 1) _ (by omega) (by omega) (by omega) h
theorem flatS49 (a2 : Int) (x : S37) (l : List S49) : (l.flatMap (stepS49 a2 x)).length ≤ l.length := by
  induction l with
  | nil => simp
  | cons m l ih => have := lenS49 a2 x m; simp only [List.flatMap_cons, List.length_append, List.length_cons]; omega
theorem S49_l1 (l0 : List S49) (l1 : List S37) (a2 : Int) (hl : l0.length ≤ 1000) (hl1 : l1.length ≤ 100) (hm : ∀ m ∈ l0, In m.f4.f0 m.f4.f1 m.f5.f0 m.f5.f1) (hx : ∀ x ∈ l1, In64 x.f2 ∧ In64 x.f3) :
    ∀ d (i : Nat) (acc : List S77), l1.length - i = d → i ≤ l1.length → acc.length + 1000 * (l1.length - i) ≤ 900000 →
      Ev (fun k => serinetteref21_Events.l1 k l0 a2 acc l1 (l1.length : Int) (i : Int)) (acc ++ (l1.drop i).flatMap (fun x => l0.flatMap (stepS49 a2 x)), 0) := by
  intro d
  induction d with
  | zero =>
    intro i acc hd hi ha
    refine Ev.step (fun k => serinetteref21_Events.l1.eq_2 ..) ?_
    simp only [if_neg (show ¬ ((i : Int) < (l1.length : Int)) by omega)]
    rw [List.drop_of_length_le (by omega), List.flatMap_nil, List.append_nil]
    exact Ev.now _
  | succ d ih =>
    intro i acc hd hi ha
    have hlt : i < l1.length := by omega
    have hw : wrap64 ((i : Int) + 1) = ((i + 1 : Nat) : Int) := by unfold wrap64; omega
    have hr : rd_T37 l1 (i : Int) = l1[i] := by simp [rd_T37, hlt]
    have hxi := hx l1[i] (List.getElem_mem hlt)
    rw [List.drop_eq_getElem_cons hlt, List.flatMap_cons, ← List.append_assoc]
    refine Ev.step (fun k => serinetteref21_Events.l1.eq_2 ..) ?_
    simp only [if_pos (show (i : Int) < (l1.length : Int) by omega), if_pos (show 0 ≤ (i : Int) by omega), hr]
    have hfl := flatS49 a2 l1[i] l0
    refine S49_l2 l0 l1 a2 l1[i] (i : Int) hl hm hxi _ _ 0 acc rfl (Nat.zero_le _) (by omega) ?_
    rw [List.drop_zero, hw]
    exact ih (i + 1) _ (by omega) (by omega) (by simp only [List.length_append]; omega)
theorem valid_ev (m : S48) (hm : In m.f4.f0 m.f4.f1 m.f5.f0 m.f5.f1) : Ev (fun k => message_validMap.f k m.f0 m.f1 m.f2 m.f3 m.f4.f0 m.f4.f1 m.f5.f0 m.f5.f1 m.f6) (ok48 m) := by
  unfold message_validMap.f ok48 okF
  have hj : ∀ b : Bool, Ev (fun k => message_validMap.j0 k b m.f0 m.f1 m.f2 m.f3 m.f4.f0 m.f4.f1 m.f5.f0 m.f5.f1 m.f6) (b && isQ m.f4.f0 m.f4.f1 && isQ m.f5.f0 m.f5.f1) := by
    intro b
    refine Ev.step (fun k => message_validMap.j0.eq_2 ..) ?_
    cases b with
    | false => simp only [Bool.false_eq_true, if_false, Bool.false_and]; exact Ev.now _
    | true =>
      simp only [if_true, Bool.true_and]
      refine Ev.bind (is_ev (a := (m.f4.f0, m.f4.f1)) ⟨hm.1, hm.2.1⟩) ?_
      by_cases c : okQ (m.f4.f0, m.f4.f1) = true
      · simp only [if_pos c]
        have c' : isQ m.f4.f0 m.f4.f1 = true := c
        rw [c', Bool.true_and]
        refine Ev.bind (is_ev (a := (m.f5.f0, m.f5.f1)) ⟨hm.2.2.1, hm.2.2.2⟩) ?_
        exact Ev.now _
      · simp only [if_neg c]
        have c' : isQ m.f4.f0 m.f4.f1 = false := by simpa [okQ] using c
        rw [c', Bool.false_and]
        exact Ev.now _
  by_cases c0 : m.f0.toList = ([111, 110] : List UInt8)
  · simp only [if_pos c0]
    refine ev_eq (hj _) ?_
    rw [c0]; rfl
  simp only [if_neg c0]
  by_cases c1 : m.f0.toList = ([99, 111, 110, 116, 114, 111, 108] : List UInt8)
  · simp only [if_pos c1]
    refine ev_eq (hj _) ?_
    rw [c1]; rfl
  simp only [if_neg c1]
  by_cases c2 : m.f0.toList = ([98, 101, 110, 100] : List UInt8)
  · simp only [if_pos c2]
    refine ev_eq (hj _) ?_
    rw [c2]; rfl
  simp only [if_neg c2]
  by_cases c3 : m.f0.toList = ([119, 105, 100, 101] : List UInt8)
  · simp only [if_pos c3]
    refine ev_eq (hj _) ?_
    rw [c3]; rfl
  simp only [if_neg c3]
  refine ev_eq (hj _) ?_
  rw [beq_false_of_ne c0, beq_false_of_ne c1, beq_false_of_ne c2, beq_false_of_ne c3]; rfl
theorem M_l0 (l0 : List S48) (l1 : List S37) (a2 : Int) (hl : l0.length ≤ 1000) (hl1 : l1.length ≤ 100) (hm : ∀ m ∈ l0, In m.f4.f0 m.f4.f1 m.f5.f0 m.f5.f1) (hx : ∀ x ∈ l1, In64 x.f2 ∧ In64 x.f3) :
    ∀ d (i : Nat), l0.length - i = d → i ≤ l0.length →
      Ev (fun k => message_Events.l0 k l0 l1 a2 l0 (l0.length : Int) (i : Int)) (if (l0.drop i).all ok48 = true then (l1.flatMap (fun x => l0.flatMap (stepS48 a2 x)), 0) else ([], 2)) := by
  intro d
  induction d with
  | zero =>
    intro i hd hi
    refine Ev.step (fun k => message_Events.l0.eq_2 ..) ?_
    simp only [if_neg (show ¬ ((i : Int) < (l0.length : Int)) by omega)]
    rw [List.drop_of_length_le (by omega), List.all_nil, if_pos rfl]
    have h := S48_l1 l0 l1 a2 hl hl1 hm hx l1.length 0 [] rfl (Nat.zero_le _) (by simp only [List.length_nil]; omega)
    rw [List.drop_zero, List.nil_append] at h
    exact h
  | succ d ih =>
    intro i hd hi
    have hlt : i < l0.length := by omega
    have hw : wrap64 ((i : Int) + 1) = ((i + 1 : Nat) : Int) := by unfold wrap64; omega
    have hr : rd_T48 l0 (i : Int) = l0[i] := by simp [rd_T48, hlt]
    rw [List.drop_eq_getElem_cons hlt, List.all_cons]
    refine Ev.step (fun k => message_Events.l0.eq_2 ..) ?_
    simp only [if_pos (show (i : Int) < (l0.length : Int) by omega), if_pos (show 0 ≤ (i : Int) by omega), hr, hw]
    refine Ev.bind (valid_ev l0[i] (hm _ (List.getElem_mem hlt))) ?_
    by_cases c : ok48 l0[i] = true
    · simp only [if_pos c]
      rw [c, Bool.true_and]
      exact ih (i + 1) (by omega) (by omega)
    · simp only [if_neg c]
      have c' : ok48 l0[i] = false := by simpa using c
      rw [c', Bool.false_and, if_neg (by decide)]
      exact Ev.now _
theorem two_is {g : Nat → Option (List S77 × Int)} {p q r s : Int} (h : In p q r s) {z : List S77 × Int} (hb : Ev g z) :
    Ev (fun k => (serinetteref01_Is.f k p q).bind fun t => (if t = true then ((serinetteref01_Is.f k r s).bind fun t2 => (if t2 = true then g k else some (([] : List S77), 2))) else some (([] : List S77), 2))) (if (isQ p q && isQ r s) = true then z else ([], 2)) := by
  refine Ev.bind (ris_ev (a := (p, q)) ⟨h.1, h.2.1⟩) ?_
  have e1 : okQ (p, q) = isQ p q := rfl
  have e2 : okQ (r, s) = isQ r s := rfl
  rw [e1]
  cases c : isQ p q with
  | false => simp only [Bool.false_eq_true, if_false, Bool.false_and]; exact Ev.now _
  | true =>
    simp only [if_true, Bool.true_and]
    refine Ev.bind (ris_ev (a := (r, s)) ⟨h.2.2.1, h.2.2.2⟩) ?_
    rw [e2]
    cases c2 : isQ r s with
    | false => simp only [Bool.false_eq_true, if_false]; exact Ev.now _
    | true => simp only [if_true]; exact hb
theorem if_two (u v : Bool) (E D : List S77 × Int) : (if u = true then (if v = true then E else D) else D) = if (u && v) = true then E else D := by cases u <;> cases v <;> rfl
theorem R_l0 (l0 : List S49) (l1 : List S37) (a2 : Int) (hl : l0.length ≤ 1000) (hl1 : l1.length ≤ 100) (hm : ∀ m ∈ l0, In m.f4.f0 m.f4.f1 m.f5.f0 m.f5.f1) (hx : ∀ x ∈ l1, In64 x.f2 ∧ In64 x.f3) :
    ∀ d (i : Nat), l0.length - i = d → i ≤ l0.length →
      Ev (fun k => serinetteref21_Events.l0 k l0 l1 a2 l0 (l0.length : Int) (i : Int)) (if (l0.drop i).all ok49 = true then (l1.flatMap (fun x => l0.flatMap (stepS49 a2 x)), 0) else ([], 2)) := by
  intro d
  induction d with
  | zero =>
    intro i hd hi
    refine Ev.step (fun k => serinetteref21_Events.l0.eq_2 ..) ?_
    simp only [if_neg (show ¬ ((i : Int) < (l0.length : Int)) by omega)]
    rw [List.drop_of_length_le (by omega), List.all_nil, if_pos rfl]
    have h := S49_l1 l0 l1 a2 hl hl1 hm hx l1.length 0 [] rfl (Nat.zero_le _) (by simp only [List.length_nil]; omega)
    rw [List.drop_zero, List.nil_append] at h
    exact h
  | succ d ih =>
    intro i hd hi
    have hlt : i < l0.length := by omega
    have hw : wrap64 ((i : Int) + 1) = ((i + 1 : Nat) : Int) := by unfold wrap64; omega
    have hr : rd_T49 l0 (i : Int) = l0[i] := by simp [rd_T49, hlt]
    rw [List.drop_eq_getElem_cons hlt, List.all_cons]
    have hn := hm l0[i] (List.getElem_mem hlt)
    have hi' := ih (i + 1) (by omega) (by omega)
    generalize l0[i] = m at hr hn
    refine Ev.step (fun k => serinetteref21_Events.l0.eq_2 ..) ?_
    simp only [if_pos (show (i : Int) < (l0.length : Int) by omega), if_pos (show 0 ≤ (i : Int) by omega), hr, hw]
    have hok : ∀ b : Bool, b = true → okF m.f0 m.f4.f0 m.f4.f1 m.f5.f0 m.f5.f1 = (b && isQ m.f4.f0 m.f4.f1 && isQ m.f5.f0 m.f5.f1) → ok49 m = (isQ m.f4.f0 m.f4.f1 && isQ m.f5.f0 m.f5.f1) := fun b hb h => by rw [← Bool.true_and (isQ m.f4.f0 m.f4.f1), ← hb]; exact h
    have hj : ∀ b : Bool, Ev (fun k => serinetteref21_Events.j1 k l0 l1 a2 b l0 (l0.length : Int) (i : Int) m.f0 m.f1 m.f2 m.f3 m.f4.f0 m.f4.f1 m.f5.f0 m.f5.f1 m.f6) (if (b && isQ m.f4.f0 m.f4.f1 && isQ m.f5.f0 m.f5.f1) = true then (if (l0.drop (i + 1)).all ok49 = true then (l1.flatMap (fun x => l0.flatMap (stepS49 a2 x)), 0) else ([], 2)) else ([], 2)) := by
      intro b
      refine Ev.step (fun k => serinetteref21_Events.j1.eq_2 ..) ?_
      cases b with
      | false => simp only [Bool.false_eq_true, if_false, Bool.false_and]; exact Ev.now _
      | true =>
        simp only [if_true, Bool.true_and, hw]
        exact two_is hn hi'
    by_cases c0 : m.f0.toList = ([111, 110] : List UInt8)
    · simp only [if_pos c0]
      refine ev_eq (hj _) ?_
      rw [Bool.true_and, if_two, hok true rfl (by unfold okF; rw [c0]; rfl)]
    simp only [if_neg c0]
    by_cases c1 : m.f0.toList = ([99, 111, 110, 116, 114, 111, 108] : List UInt8)
    · simp only [if_pos c1]
      refine ev_eq (hj _) ?_
      rw [Bool.true_and, if_two, hok true rfl (by unfold okF; rw [c1]; rfl)]
    simp only [if_neg c1]
    by_cases c2 : m.f0.toList = ([98, 101, 110, 100] : List UInt8)
    · simp only [if_pos c2]
      refine ev_eq (hj _) ?_
      rw [Bool.true_and, if_two, hok true rfl (by unfold okF; rw [c2]; rfl)]
    simp only [if_neg c2]
    by_cases c3 : m.f0.toList = ([119, 105, 100, 101] : List UInt8)
    · simp only [if_pos c3]
      refine ev_eq (hj _) ?_
      rw [Bool.true_and, if_two, hok true rfl (by unfold okF; rw [c3]; rfl)]
    simp only [if_neg c3]
    refine ev_eq (hj _) ?_
    have hf : ok49 m = ((m.f0.toList == ([107, 101, 121] : List UInt8)) && isQ m.f4.f0 m.f4.f1 && isQ m.f5.f0 m.f5.f1) := by unfold ok49 okF; rw [beq_false_of_ne c0, beq_false_of_ne c1, beq_false_of_ne c2, beq_false_of_ne c3]; rfl
    rw [hf, if_two]
theorem same_ev (l : List S77) (hl : l.length ≤ 1000000) : Ev (fun k => serinetteref01_SameEvents.f k l l) true := by
  have H : ∀ d (i : Nat), l.length - i = d → i ≤ l.length → Ev (fun k => serinetteref01_SameEvents.l0 k l l (l.length : Int) (i : Int)) true := by
    intro d
    induction d with
    | zero =>
      intro i hd hi
      refine Ev.step (fun k => serinetteref01_SameEvents.l0.eq_2 ..) ?_
      simp only [if_neg (show ¬ ((i : Int) < (l.length : Int)) by omega)]
      exact Ev.now true
    | succ d ih =>
      intro i hd hi
      refine Ev.step (fun k => serinetteref01_SameEvents.l0.eq_2 ..) ?_
      simp only [if_pos (show (i : Int) < (l.length : Int) by omega), if_pos (show 0 ≤ (i : Int) by omega), beq_self_eq_true, Bool.not_true, Bool.or_false, Bool.false_eq_true, if_false]
      have := ih (i + 1) (by omega) (by omega)
      rwa [show ((i + 1 : Nat) : Int) = wrap64 ((i : Int) + 1) by unfold wrap64; omega] at this
  unfold serinetteref01_SameEvents.f
  simp only [if_true]
  exact H _ 0 rfl (Nat.zero_le _)
def conv (m : S48) : S49 := ⟨m.f0, m.f1, m.f2, m.f3, ⟨m.f4.f0, m.f4.f1⟩, ⟨m.f5.f0, m.f5.f1⟩, m.f6⟩
theorem of_top (t : Int) (h1 : 1 ≤ t) (h2 : t ≤ 16383) : ofQ isQ (mk t t).1 (mk t t).2 = Rat.divInt 1 1 := by
  rw [mk_good t t (by omega) (by omega) (by omega)]
  exact (Rat.divInt_eq_divInt_iff (by omega) (by omega)).2 (by omega)
theorem of_zero (t : Int) (h1 : 1 ≤ t) (h2 : t ≤ 16383) : ofQ isQ (mk 0 t).1 (mk 0 t).2 = Rat.divInt 0 1 := by
  rw [mk_good 0 t (by omega) (by omega) (by omega)]
  exact (Rat.divInt_eq_divInt_iff (by omega) (by omega)).2 (by omega)
theorem share_is (p q r s n t : Int) (x : Rat) (h : ofQ isQ (mk n t).1 (mk n t).2 = x) : shareOf p q r s n t = ((rtoQ (Nb.part p q r s x)).1, true) := by
  unfold shareOf
  rw [h, ← toQ_is]
  split <;> rfl
theorem fits_kind {k x : List UInt8} {a b c d e : Bool} (h : ((x == k || (k == ([111, 110] : List UInt8) && x == ([111, 102, 102] : List UInt8)) || (k == ([107, 101, 121] : List UInt8) && x == ([111, 110] : List UInt8))) && (a || b) && (c || d || e)) = true) (hk : k ≠ [107, 101, 121]) :
    (x = [98, 101, 110, 100] ∨ x = [119, 105, 100, 101]) ↔ (k = [98, 101, 110, 100] ∨ k = [119, 105, 100, 101]) := by
  simp only [Bool.and_eq_true, Bool.or_eq_true, beq_iff_eq] at h
  obtain ⟨⟨(h | ⟨h, h2⟩) | ⟨h, h2⟩, -⟩, -⟩ := h
  · rw [h]
  · subst h; subst h2; decide
  · exact absurd h hk
theorem both (k : ByteArray) (m1 m2 p q r s : Int) (g : Bool) (x0 : ByteArray) (x1 x2 x3 : Int) (hf : fitsOf k m1 m2 x0 x1 x2 = true) (hx : 0 ≤ x3 ∧ x3 ≤ 16383) : rmapOf0 k p q r s g x0 x2 x3 = mapOf0 k p q r s g x0 x2 x3 := by
  unfold rmapOf0 mapOf0
  by_cases hk : k.toList = [107, 101, 121]
  · rw [if_pos hk, if_pos hk]
  rw [if_neg hk, if_neg hk]
  have hkx := fits_kind hf hk
  obtain ⟨t, ht⟩ : ∃ t : Int, (if k.toList = [98, 101, 110, 100] ∨ k.toList = [119, 105, 100, 101] then (16383 : Int) else 127) = t := ⟨_, rfl⟩
  have hb : 1 ≤ t ∧ t ≤ 16383 := by rw [← ht]; split <;> omega
  have ho : ([111, 110] : List UInt8) ≠ [111, 102, 102] := by decide
  simp only [ht]
  by_cases h1 : g = true ∧ x0.toList = [111, 102, 102]
  · rw [if_pos h1, if_neg (fun h => ho (h.2.symm.trans h1.2)), if_pos h1]
    exact (share_is _ _ _ _ _ _ _ (of_zero t hb.1 hb.2)).symm
  · by_cases h2 : g = true ∧ x0.toList = [111, 110]
    · rw [if_pos h2, if_neg h1, if_pos h2]
      exact (share_is _ _ _ _ _ _ _ (of_top t hb.1 hb.2)).symm
    · rw [if_neg h2, if_neg h1, if_neg h1, if_neg h2]
      by_cases h3 : x0.toList = [111, 102, 102]
      · rw [if_pos h3, if_pos h3]
      · rw [if_neg h3, if_neg h3]
        have hs := share_is p q r s x3 t (Rat.divInt x3 t) (mk_good x3 t (by omega) (by omega) (by omega))
        rw [hs]
        by_cases h4 : x0.toList = [98, 101, 110, 100] ∨ x0.toList = [119, 105, 100, 101]
        · rw [if_pos h4]
          rw [if_pos (hkx.1 h4)] at ht
          rw [← ht]
        · rw [if_neg h4]
          rw [if_neg (fun h => h4 (hkx.2 h))] at ht
          rw [← ht]
theorem step_conv (a2 : Int) (x : S37) (m : S48) (hx : validB x = true) : stepS49 a2 x (conv m) = stepS48 a2 x m := by
  unfold stepS49 stepS48 conv
  simp only []
  by_cases c : fitsOf m.f0 m.f1 m.f2 x.f0 x.f1 x.f2 = true
  · rw [if_pos c, if_pos c, both m.f0 m.f1 m.f2 m.f4.f0 m.f4.f1 m.f5.f0 m.f5.f1 m.f6 x.f0 x.f1 x.f2 x.f3 c (ok_of hx).2]
  · rw [if_neg c, if_neg c]
theorem flat_conv (a2 : Int) (l0 : List S48) (x : S37) (hx : validB x = true) : (l0.map conv).flatMap (stepS49 a2 x) = l0.flatMap (stepS48 a2 x) := by
  induction l0 with
  | nil => rfl
  | cons m l ih => rw [List.map_cons, List.flatMap_cons, List.flatMap_cons, step_conv a2 x m hx, ih]
theorem evs_conv (a2 : Int) (l0 : List S48) (l1 : List S37) (hx : ∀ x ∈ l1, validB x = true) : l1.flatMap (fun x => (l0.map conv).flatMap (stepS49 a2 x)) = l1.flatMap (fun x => l0.flatMap (stepS48 a2 x)) := by
  induction l1 with
  | nil => rfl
  | cons x l ih => rw [List.flatMap_cons, List.flatMap_cons, flat_conv a2 l0 x (hx x (by simp)), ih (fun y hy => hx y (by simp [hy]))]
theorem all_conv (l0 : List S48) : (l0.map conv).all ok49 = l0.all ok48 := by
  induction l0 with
  | nil => rfl
  | cons m l ih => rw [List.map_cons, List.all_cons, List.all_cons, ih]; rfl
theorem evs_len (a2 : Int) (l0 : List S48) (l1 : List S37) (h : l0.length ≤ 40) : (l1.flatMap (fun x => l0.flatMap (stepS48 a2 x))).length ≤ 40 * l1.length := by
  induction l1 with
  | nil => simp
  | cons x l ih => have := flatS48 a2 x l0; simp only [List.flatMap_cons, List.length_append, List.length_cons]; omega
theorem law_end (l0 : List S48) (l1 : List S37) (a2 : Int) (hl : l0.length ≤ 40) (hl1 : l1.length ≤ 100) (hm : ∀ m ∈ l0, In m.f4.f0 m.f4.f1 m.f5.f0 m.f5.f1) (hx : ∀ x ∈ l1, validB x = true) :
    ∀ d (i : Nat), l0.length - i = d → i ≤ l0.length → Ev (fun k => serinettelaw21_EventsMade.l1 k l0 l1 a2 ((l0.take i).map conv) l0 (l0.length : Int) (i : Int)) true := by
  have hin : ∀ x ∈ l1, In64 x.f2 ∧ In64 x.f3 := fun x h => by
    have := ok_of (hx x h)
    unfold In64
    omega
  intro d
  induction d with
  | zero =>
    intro i hd hi
    refine Ev.step (fun k => serinettelaw21_EventsMade.l1.eq_2 ..) ?_
    simp only [if_neg (show ¬ ((i : Int) < (l0.length : Int)) by omega)]
    rw [List.take_of_length_le (by omega)]
    have h1 := M_l0 l0 l1 a2 (by omega) hl1 hm hin l0.length 0 rfl (Nat.zero_le _)
    have h2 := R_l0 (l0.map conv) l1 a2 (by simp only [List.length_map]; omega) hl1 (fun m hm' => by obtain ⟨y, hy, rfl⟩ := List.mem_map.1 hm'; exact hm y hy) hin _ 0 rfl (Nat.zero_le _)
    rw [List.drop_zero] at h1 h2
    rw [all_conv, evs_conv a2 l0 l1 hx] at h2
    refine Ev.bind h1 ?_
    refine Ev.bind h2 ?_
    simp only [if_true]
    refine Ev.bind (same_ev _ ?_) ?_
    · split
      · have := evs_len a2 l0 l1 hl; simp only []; omega
      · exact Nat.zero_le _
    · simp only [if_true, awake_is, Option.bind_some]
      exact Ev.now true
  | succ d ih =>
    intro i hd hi
    have hlt : i < l0.length := by omega
    have hw : wrap64 ((i : Int) + 1) = ((i + 1 : Nat) : Int) := by unfold wrap64; omega
    have hr : rd_T48 l0 (i : Int) = l0[i] := by simp [rd_T48, hlt]
    refine Ev.step (fun k => serinettelaw21_EventsMade.l1.eq_2 ..) ?_
    simp only [if_pos (show (i : Int) < (l0.length : Int) by omega), if_pos (show 0 ≤ (i : Int) by omega), hr, hw, if_pos (show ((l0.take i).map conv).length < 1599289640401 by simp only [List.length_map, List.length_take]; omega)]
    have h := ih (i + 1) (by omega) (by omega)
    rw [List.take_succ_eq_append_getElem hlt, List.map_append] at h
    exact h
theorem law_valid (l0 : List S48) (l1 : List S37) (a2 : Int) (hl : l0.length ≤ 40) (hl1 : l1.length ≤ 100) (hm : ∀ m ∈ l0, In m.f4.f0 m.f4.f1 m.f5.f0 m.f5.f1) :
    ∀ d (i : Nat), l1.length - i = d → i ≤ l1.length → (∀ x ∈ l1.take i, validB x = true) → Ev (fun k => serinettelaw21_EventsMade.l0 k l0 l1 a2 l1 (l1.length : Int) (i : Int)) true := by
  intro d
  induction d with
  | zero =>
    intro i hd hi hv
    refine Ev.step (fun k => serinettelaw21_EventsMade.l0.eq_2 ..) ?_
    simp only [if_neg (show ¬ ((i : Int) < (l1.length : Int)) by omega)]
    rw [List.take_of_length_le (by omega)] at hv
    exact law_end l0 l1 a2 hl hl1 hm hv _ 0 rfl (Nat.zero_le _)
  | succ d ih =>
    intro i hd hi hv
    have hlt : i < l1.length := by omega
    have hw : wrap64 ((i : Int) + 1) = ((i + 1 : Nat) : Int) := by unfold wrap64; omega
    have hr : rd_T37 l1 (i : Int) = l1[i] := by simp [rd_T37, hlt]
    refine Ev.step (fun k => serinettelaw21_EventsMade.l0.eq_2 ..) ?_
    simp only [if_pos (show (i : Int) < (l1.length : Int) by omega), if_pos (show 0 ≤ (i : Int) by omega), hr, hw]
    refine Ev.bind (f := fun k t => (if t = true then (serinettelaw21_EventsMade.l0 k l0 l1 a2 l1 (l1.length : Int) ((i + 1 : Nat) : Int)) else ((serinettelaw21_awake.f k).bind fun t704 => (some t704)))) (ev_at 1 fun k => rvalid_is k l1[i]) ?_
    cases c : validB l1[i] with
    | true =>
      simp only [if_true]
      refine ih (i + 1) (by omega) (by omega) (fun x hx => ?_)
      rw [List.take_succ_eq_append_getElem hlt, List.mem_append, List.mem_singleton] at hx
      rcases hx with hx | rfl
      · exact hv x hx
      · exact c
    | false =>
      simp only [Bool.false_eq_true, if_false, awake_is, Option.bind_some]
      exact Ev.now true
theorem pure (l0 : List S48) (l1 : List S37) (a2 : Int) (hm : ∀ m ∈ l0, In m.f4.f0 m.f4.f1 m.f5.f0 m.f5.f1) : ∃ k, serinettelaw21_EventsMade.f k l0 l1 a2 = some true := by
  refine Ev.rounds (g := fun k => serinettelaw21_EventsMade.f k l0 l1 a2) ?_
  have hj : ∀ b : Bool, (b = false → l0.length ≤ 40 ∧ l1.length ≤ 100) → Ev (fun k => serinettelaw21_EventsMade.j0 k l0 l1 a2 b) true := by
    intro b hb
    refine Ev.step (fun k => serinettelaw21_EventsMade.j0.eq_2 ..) ?_
    cases b with
    | true => simp only [if_true, awake_is, Option.bind_some]; exact Ev.now true
    | false =>
      simp only [Bool.false_eq_true, if_false]
      exact law_valid l0 l1 a2 (hb rfl).1 (hb rfl).2 hm _ 0 rfl (Nat.zero_le _) (by simp)
  unfold serinettelaw21_EventsMade.f
  by_cases h : (l0.length : Int) > 40
  · simp only [if_pos h]
    exact hj true (fun h => by cases h)
  · simp only [if_neg h]
    exact hj _ (fun hd => by have := of_decide_eq_false hd; omega)
end Go.Proofs.Ytlaidcoickeihaa.SEventsMade
namespace Go.Proofs.Ytlaidcoickeihaa.Fit
open Go.ChangeShapes Go.WideShapes Go.Deep Go.Proofs.Ytlaidcoickeihaa.Wd.PrintWords
structure Fit (P : Program) (t : TypeId) {α : Type} (k : Kd α) (good : α → Prop) : Prop where
  sz : P.cellsOf t = k.sz
  take : ∀ {H : Type} {enc : TypeId × Value → H} {w : World} {base : Nat} {spare : Nat → Bool} {held : Bool} {fuel : Nat} {cs : List Value} {x : DataW H × List MemPlace},
    DataW.trod enc P w base spare held fuel t cs = some x → (∀ n ∈ x.1.weights P t, n ≤ 140737488351232) → ∃ a, k.K w a cs ∧ good a
theorem Fit.int {P : Program} {t : TypeId} {k : IntKind} (ht : P.underlying t = some (.int k)) (hs : P.cellsOf t = 1) : Fit P t (Kd.int k) (fun n => (Lit.int k n).wf = true) :=
  ⟨hs, fun h _ => by
    obtain ⟨n, rfl, _, hw⟩ := DataW.trod_int ht h
    exact ⟨n, rfl, hw⟩⟩
theorem Fit.bool {P : Program} {t : TypeId} (ht : P.underlying t = some .bool) (hs : P.cellsOf t = 1) : Fit P t Kd.bool (fun _ => True) :=
  ⟨hs, fun h _ => by
    obtain ⟨n, rfl, _⟩ := DataW.trod_bool ht h
    exact ⟨n, rfl, trivial⟩⟩
theorem Fit.string {P : Program} {t : TypeId} (ht : P.underlying t = some .string) (hs : P.cellsOf t = 1) : Fit P t Kd.string (fun s => s.size ≤ 140737488351232) :=
  ⟨hs, fun h hw => by
    obtain ⟨s, rfl, rfl, _⟩ := DataW.trod_string ht h
    refine ⟨s, rfl, ?_⟩
    have := hw s.data.toList.length (by simp [DataW.weights])
    rw [Array.length_toList] at this
    exact this⟩
theorem Fit.iso {P : Program} {t : TypeId} {α β : Type} {k : Kd α} {good : α → Prop} (h : Fit P t k good) (f : β → α) (g : α → β) (hfg : ∀ a, f (g a) = a) : Fit P t (Kd.iso k f) (fun b => good (f b)) :=
  ⟨h.sz, fun ht hw => by
    obtain ⟨a, hk, hg⟩ := h.take ht hw
    refine ⟨g a, ?_, ?_⟩
    · show k.K _ (f (g a)) _
      rw [hfg]; exact hk
    · show good (f (g a))
      rw [hfg]; exact hg⟩
theorem weightsAll_mem {H : Type} {P : Program} {e : TypeId} : ∀ {ds : List (DataW H)} {d : DataW H}, d ∈ ds → ∀ n ∈ d.weights P e, n ∈ DataW.weightsAll P e ds
  | [], _, h, _, _ => by cases h
  | d0 :: ds, d, h, n, hn => by
    simp only [DataW.weightsAll, List.mem_append]
    rcases List.mem_cons.1 h with rfl | h
    · exact .inl hn
    · exact .inr (weightsAll_mem h n hn)
theorem Fit.slice {P : Program} {t e : TypeId} {α : Type} {k : Kd α} {good : α → Prop} {B : Nat} (ht : P.underlying t = some (.slice e)) (hs : P.cellsOf t = 1) (he : Fit P e k good) (hB : P.bytesOf e = B) :
    Fit P t (Kd.slice e k) (fun xs => xs.length * B ≤ 140737488351232 ∧ ∀ x ∈ xs, good x) :=
  ⟨hs, fun {H enc w base spare held fuel cs x} h hw => by
    rcases open_slice ht h with ⟨rfl, rfl⟩ | ⟨a, len, cap, m, n, D, Pl, rfl, hb, hl, hm, hmm, rfl, hi⟩
    · exact ⟨[], ⟨none, 0, rfl, Nat.le_refl _, Kd.C_nil _ _⟩, by simp, fun x hx => by cases hx⟩
    · have hlm : len ≤ m := by rw [hmm]; split <;> omega
      have hwt : ∀ n ∈ DataW.weights P t (.slice ((List.range len).map D) ((List.range (m - len)).map fun j => D (len + j))), n ≤ 140737488351232 := hw
      have hel : ∀ i, i < len → ∃ (p : α), ∃ c, w.cells? base (a.add (i * P.cellsOf e)) (P.cellsOf e) = some c ∧ k.K w p c ∧ good p := by
        intro i hlt
        obtain ⟨c, hc, hT⟩ := hi i (by omega)
        obtain ⟨p, hp, hg⟩ := he.take hT (by
          intro q hq
          refine hwt q ?_
          simp only [DataW.weights, ht, List.mem_cons, List.mem_append]
          exact .inr (.inl (weightsAll_mem (List.mem_map.2 ⟨i, List.mem_range.2 hlt, rfl⟩) q hq)))
        exact ⟨p, c, hc, hp, hg⟩
      have hch : ∃ xs : List α, xs.length = len ∧ ∀ (i : Nat) (p : α), xs[i]? = some p → ∃ c, w.cells? base (a.add (i * P.cellsOf e)) (P.cellsOf e) = some c ∧ k.K w p c ∧ good p := by
        clear hwt hw h hi hl hm hmm hlm
        induction len with
        | zero => exact ⟨[], rfl, fun i p hp => by simp at hp⟩
        | succ len ih =>
          obtain ⟨xs, hx, hxs⟩ := ih (fun i hi => hel i (Nat.lt_succ_of_lt hi))
          obtain ⟨p, hp⟩ := hel len (Nat.lt_succ_self _)
          refine ⟨xs ++ [p], by simp [hx], fun i q hq => ?_⟩
          by_cases hil : i < xs.length
          · rw [List.getElem?_append_left hil] at hq
            exact hxs i q hq
          · have hlt : i < (xs ++ [p]).length := (List.getElem?_eq_some_iff.1 hq).1
            simp at hlt
            obtain rfl : i = xs.length := by omega
            simp at hq
            subst hq
            rw [hx]
            exact hp
      obtain ⟨xs, hx, hxs⟩ := hch
      refine ⟨xs, ⟨some a, cap, by rw [hx], by rw [hx]; exact hl, ?_⟩, ?_, ?_⟩
      · refine ⟨rfl, by simp only [maxLen] at hm; omega, fun _ => ⟨a, rfl, fun j p hj => ?_⟩⟩
        obtain ⟨c, hc, hk, _⟩ := hxs j p hj
        have hck := k.K_len hk
        obtain ⟨_, hcl, hat⟩ := World.cells?_some hc
        refine ⟨c, hck, hk, fun i u hu => ?_⟩
        have hi' : i < c.length := (List.getElem?_eq_some_iff.1 hu).1
        have h1 := hat (i := i) (by rw [← he.sz] at hck; omega)
        rw [Deep.add_add] at h1
        rw [← he.sz, h1, hu]
      · have h1 : (len + (m - len)) * P.bytesOf e ≤ 140737488351232 := hwt _ (by simp [DataW.weights, ht])
        rw [hB] at h1
        rw [hx]
        exact Nat.le_trans (Nat.mul_le_mul_right _ (by omega)) h1
      · intro x hx'
        obtain ⟨i, hi', rfl⟩ := List.getElem_of_mem hx'
        obtain ⟨c, _, _, hg⟩ := hxs i _ (List.getElem?_eq_getElem hi')
        exact hg⟩
structure FitF (P : Program) (fs : List Field) (off : Nat) {α : Type} (k : Kd α) (good : α → Prop) : Prop where
  take : ∀ {H : Type} {enc : TypeId × Value → H} {w : World} {base : Nat} {spare : Nat → Bool} {held : Bool} {fuel : Nat} {cs : List Value} {xs : List (DataW H × List MemPlace)},
    xs.length = fs.length → (∀ (i : Nat) (f : Field), fs[i]? = some f → DataW.trod enc P w base spare held fuel f.type ((cs.drop f.offset).take (P.cellsOf f.type)) = xs[i]?) →
    cs.length = off + k.sz → (∀ n ∈ DataW.weightsEach P (fs.map (·.type)) (xs.map (·.1)), n ≤ 140737488351232) → ∃ a, k.K w a (cs.drop off) ∧ good a
theorem FitF.last {P : Program} {f : Field} {off : Nat} {α : Type} {k : Kd α} {good : α → Prop} (hf : Fit P f.type k good) (ho : f.offset = off) : FitF P [f] off k good :=
  ⟨fun {H enc w base spare held fuel cs xs} hl h hc hw => by
    match xs, hl with
    | [y], _ =>
      have h0 := h 0 f rfl
      rw [ho, hf.sz, List.take_of_length_le (by rw [List.length_drop]; omega)] at h0
      exact hf.take (x := y) h0 (fun n hn => hw n (by simp [DataW.weightsEach]; exact hn))⟩
theorem FitF.cons {P : Program} {f : Field} {fs : List Field} {off : Nat} {α β : Type} {k : Kd α} {k' : Kd β} {good : α → Prop} {good' : β → Prop} (hf : Fit P f.type k good) (ho : f.offset = off) (hfs : FitF P fs (off + k.sz) k' good') :
    FitF P (f :: fs) off (Kd.pair k k') (fun x => good x.1 ∧ good' x.2) :=
  ⟨fun {H enc w base spare held fuel cs xs} hl h hc hw => by
    match xs, hl with
    | y :: ys, hl =>
      have hc' : cs.length = off + (k.sz + k'.sz) := hc
      have h0 := h 0 f rfl
      rw [ho, hf.sz] at h0
      obtain ⟨a, ha, hga⟩ := hf.take (x := y) h0 (fun n hn => hw n (by simp only [List.map_cons, DataW.weightsEach, List.mem_append]; exact .inl hn))
      obtain ⟨b, hb, hgb⟩ := hfs.take (xs := ys) (by simpa using hl) (fun i g hg => by have := h (i + 1) g (by simpa using hg); simpa using this) (by omega)
        (fun n hn => hw n (by simp only [List.map_cons, DataW.weightsEach, List.mem_append]; exact .inr hn))
      refine ⟨(a, b), ⟨(cs.drop off).take k.sz, cs.drop (off + k.sz), ?_, ha, hb⟩, hga, hgb⟩
      rw [← List.drop_drop, List.take_append_drop]⟩
theorem Fit.struct {P : Program} {t : TypeId} {fs : Array Field} {α : Type} {k : Kd α} {good : α → Prop} (ht : P.underlying t = some (.struct fs)) (hs : P.cellsOf t = k.sz) (hf : FitF P fs.toList 0 k good) : Fit P t k good :=
  ⟨hs, fun {H enc w base spare held fuel cs x} h hw => by
    obtain ⟨xs, n, rfl, rfl, hc, hl, hg⟩ := DataW.trod_struct ht h
    have := hf.take (xs := xs) (by simpa using hl) (fun i f hi => hg i f (by simpa using hi)) (by rw [hc, hs]; omega) (fun q hq => hw q (by simpa [DataW.weights, ht] using hq))
    simpa using this⟩
theorem Fit.param {P : Program} {t : TypeId} {α : Type} {k : Kd α} {good : α → Prop} (hf : Fit P t k good) {H : Type} {enc : TypeId × Value → H} {w : World} {base : Nat} {spare : Nat → Bool} {held : Bool} {v : Value} {d : DataW H} {ps : List MemPlace}
    {ts : List TypeId} {ds : List (DataW H)} {j : Nat} (hsz : (DataW.weightsEach P ts ds).all (· ≤ reachBytes) = true) (hj : ts[j]? = some t) (hd : ds[j]? = some d) (h : DataW.Trod enc P w base spare held t v d ps) :
    ∃ a, k.K w a v.cells.toList ∧ good a := by
  obtain ⟨fuel, h⟩ := h
  refine hf.take h fun n hn => ?_
  have := List.all_eq_true.1 hsz _ (DataW.weights_mem_each hj hd n hn)
  exact of_decide_eq_true this
end Go.Proofs.Ytlaidcoickeihaa.Fit
