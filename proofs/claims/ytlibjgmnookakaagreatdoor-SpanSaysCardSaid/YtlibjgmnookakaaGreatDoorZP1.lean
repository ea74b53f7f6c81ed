/- Parts of the proof of SpanSays, joined by program out of this session's own texts. -/
import Derived.Test.YtlibjgmnookakaaGreatDoorZP0
set_option linter.unusedVariables false
set_option linter.unusedSimpArgs false
namespace Go.Proofs.YtlibjgmnookakaaGreatDoor.SSpanSays
open Go.RowKit Go.Proofs.YtlibjgmnookakaaGreatDoor.Wd.PrintWords Go.Proofs.YtlibjgmnookakaaGreatDoor.Wd.PrintLast Go.Proofs.YtlibjgmnookakaaGreatDoor.Wd.PrintMore
attribute [local go_sem] max2_int min2_int max_two min_two max_three min_three max_four min_four
attribute [local go_sem] max2_int min2_int max_two min_two max_three min_three max_four min_four
attribute [local go_sem] max2_int min2_int max_two min_two max_three min_three max_four min_four
attribute [local go_sem high] eqA23
attribute [local go_sem high] eqA25
mutual
def span_Within.j0 : Nat → Bool → Int → Int → Int → Int → Int → Bool → Bool → Int → Int → Int → Int → Int → Bool → Bool → Option (Bool)
 | 0, _, _, _, _, _, _, _, _, _, _, _, _, _, _, _ => none
 | k + 1, x9, x196000, x196001, x196002, x196003, x196004, x196005, x196006, x197000, x197001, x197002, x197003, x197004, x197005, x197006 => if x9 = true then (some false) else (if x196006 = true then (some true) else (if x197006 = true then (some false) else ((ratio_Is.f k x197000 x197001).bind fun t211 => (if t211 = true then ((ratio_Is.f k x196000 x196001).bind fun t212 => (if t212 = true then ((ratio_Cmp.f k x196000 x196001 x197000 x197001).bind fun t213 => (span_Within.j1 k (decide (t213 < 0)) x196000 x196001 x196002 x196003 x196004 x196005 x196006 x197000 x197001 x197002 x197003 x197004 x197005 x197006)) else (span_Within.j1 k true x196000 x196001 x196002 x196003 x196004 x196005 x196006 x197000 x197001 x197002 x197003 x197004 x197005 x197006))) else (span_Within.j1 k false x196000 x196001 x196002 x196003 x196004 x196005 x196006 x197000 x197001 x197002 x197003 x197004 x197005 x197006)))))
def span_Within.j1 : Nat → Bool → Int → Int → Int → Int → Int → Bool → Bool → Int → Int → Int → Int → Int → Bool → Bool → Option (Bool)
 | 0, _, _, _, _, _, _, _, _, _, _, _, _, _, _, _ => none
 | k + 1, x23, x196000, x196001, x196002, x196003, x196004, x196005, x196006, x197000, x197001, x197002, x197003, x197004, x197005, x197006 => if x23 = true then (some false) else ((ratio_Is.f k x197002 x197003).bind fun t214 => (if t214 = true then ((ratio_Is.f k x196002 x196003).bind fun t215 => (if t215 = true then ((ratio_Cmp.f k x196002 x196003 x197002 x197003).bind fun t216 => (span_Within.j2 k (decide (t216 > 0)) x196000 x196001 x196002 x196003 x196004 x196005 x196006 x197000 x197001 x197002 x197003 x197004 x197005 x197006)) else (span_Within.j2 k true x196000 x196001 x196002 x196003 x196004 x196005 x196006 x197000 x197001 x197002 x197003 x197004 x197005 x197006))) else (span_Within.j2 k false x196000 x196001 x196002 x196003 x196004 x196005 x196006 x197000 x197001 x197002 x197003 x197004 x197005 x197006)))
def span_Within.j2 : Nat → Bool → Int → Int → Int → Int → Int → Bool → Bool → Int → Int → Int → Int → Int → Bool → Bool → Option (Bool)
 | 0, _, _, _, _, _, _, _, _, _, _, _, _, _, _, _ => none
 | k + 1, x41, x196000, x196001, x196002, x196003, x196004, x196005, x196006, x197000, x197001, x197002, x197003, x197004, x197005, x197006 => if x41 = true then (some false) else (if x197004 = 0 then (some true) else (if x196004 = 0 then (some false) else (some ((Int.tmod x197004 x196004) == 0))))
end
def span_Within.f (k : Nat) (a0_0 : Int) (a0_1 : Int) (a0_2 : Int) (a0_3 : Int) (a0_4 : Int) (a0_5 : Bool) (a0_6 : Bool) (a1_0 : Int) (a1_1 : Int) (a1_2 : Int) (a1_3 : Int) (a1_4 : Int) (a1_5 : Bool) (a1_6 : Bool) : Option (Bool) := (span_valid.f k a0_0 a0_1 a0_2 a0_3 a0_4 a0_5 a0_6).bind fun bt197 => ((span_valid.f k a1_0 a1_1 a1_2 a1_3 a1_4 a1_5 a1_6).bind fun bt204 => (if bt197.2.2.2.2.2.1 = true then (span_Within.j0 k (!bt204.2.2.2.2.2.1) bt197.1 bt197.2.1 bt197.2.2.1 bt197.2.2.2.1 bt197.2.2.2.2.1 bt197.2.2.2.2.2.1 bt197.2.2.2.2.2.2 bt204.1 bt204.2.1 bt204.2.2.1 bt204.2.2.2.1 bt204.2.2.2.2.1 bt204.2.2.2.2.2.1 bt204.2.2.2.2.2.2) else (span_Within.j0 k false bt197.1 bt197.2.1 bt197.2.2.1 bt197.2.2.2.1 bt197.2.2.2.2.1 bt197.2.2.2.2.2.1 bt197.2.2.2.2.2.2 bt204.1 bt204.2.1 bt204.2.2.1 bt204.2.2.2.1 bt204.2.2.2.2.1 bt204.2.2.2.2.2.1 bt204.2.2.2.2.2.2)))
theorem span_Within.mono_l : ∀ k, (∀ y0 y1 y2 y3 y4 y5 y6 y7 y8 y9 y10 y11 y12 y13 y14, LeO (span_Within.j0 k y0 y1 y2 y3 y4 y5 y6 y7 y8 y9 y10 y11 y12 y13 y14) (span_Within.j0 (k + 1) y0 y1 y2 y3 y4 y5 y6 y7 y8 y9 y10 y11 y12 y13 y14)) ∧ (∀ y0 y1 y2 y3 y4 y5 y6 y7 y8 y9 y10 y11 y12 y13 y14, LeO (span_Within.j1 k y0 y1 y2 y3 y4 y5 y6 y7 y8 y9 y10 y11 y12 y13 y14) (span_Within.j1 (k + 1) y0 y1 y2 y3 y4 y5 y6 y7 y8 y9 y10 y11 y12 y13 y14)) ∧ (∀ y0 y1 y2 y3 y4 y5 y6 y7 y8 y9 y10 y11 y12 y13 y14, LeO (span_Within.j2 k y0 y1 y2 y3 y4 y5 y6 y7 y8 y9 y10 y11 y12 y13 y14) (span_Within.j2 (k + 1) y0 y1 y2 y3 y4 y5 y6 y7 y8 y9 y10 y11 y12 y13 y14))
 | 0 => ⟨fun _ _ _ _ _ _ _ _ _ _ _ _ _ _ _ r h => by simp [span_Within.j0] at h, fun _ _ _ _ _ _ _ _ _ _ _ _ _ _ _ r h => by simp [span_Within.j1] at h, fun _ _ _ _ _ _ _ _ _ _ _ _ _ _ _ r h => by simp [span_Within.j2] at h⟩
 | k + 1 => by
  obtain ⟨ih0, ih1, ih2⟩ := span_Within.mono_l k
  refine ⟨?_, ?_, ?_⟩
  ·
   intro y0 y1 y2 y3 y4 y5 y6 y7 y8 y9 y10 y11 y12 y13 y14
   unfold span_Within.j0
   repeat' first
   | (with_reducible exact ih0 _ _ _ _ _ _ _ _ _ _ _ _ _ _ _)
   | (with_reducible exact ih1 _ _ _ _ _ _ _ _ _ _ _ _ _ _ _)
   | (with_reducible exact ih2 _ _ _ _ _ _ _ _ _ _ _ _ _ _ _)
   | (with_reducible exact ratio_Cmp.mono _ _ _ _ _)
   | (with_reducible exact ratio_Is.mono _ _ _)
   | (with_reducible exact span_valid.mono _ _ _ _ _ _ _ _)
   | (with_reducible exact LeO.refl _)
   | (with_reducible exact LeO.none _)
   | (with_reducible refine LeO.ite ?_ ?_)
   | (with_reducible refine LeO.bind ?_ (fun _ => ?_))
   | exact ih0 _ _ _ _ _ _ _ _ _ _ _ _ _ _ _
   | exact ih1 _ _ _ _ _ _ _ _ _ _ _ _ _ _ _
   | exact ih2 _ _ _ _ _ _ _ _ _ _ _ _ _ _ _
   | exact ratio_Cmp.mono _ _ _ _ _
   | exact ratio_Is.mono _ _ _
   | exact span_valid.mono _ _ _ _ _ _ _ _
   | exact LeO.none _
   | refine LeO.ite ?_ ?_
   | refine LeO.bind ?_ (fun _ => ?_)
  ·
   intro y0 y1 y2 y3 y4 y5 y6 y7 y8 y9 y10 y11 y12 y13 y14
   unfold span_Within.j1
   repeat' first
   | (with_reducible exact ih0 _ _ _ _ _ _ _ _ _ _ _ _ _ _ _)
   | (with_reducible exact ih1 _ _ _ _ _ _ _ _ _ _ _ _ _ _ _)
   | (with_reducible exact ih2 _ _ _ _ _ _ _ _ _ _ _ _ _ _ _)
   | (with_reducible exact ratio_Cmp.mono _ _ _ _ _)
   | (with_reducible exact ratio_Is.mono _ _ _)
   | (with_reducible exact span_valid.mono _ _ _ _ _ _ _ _)
   | (with_reducible exact LeO.refl _)
   | (with_reducible exact LeO.none _)
   | (with_reducible refine LeO.ite ?_ ?_)
   | (with_reducible refine LeO.bind ?_ (fun _ => ?_))
   | exact ih0 _ _ _ _ _ _ _ _ _ _ _ _ _ _ _
   | exact ih1 _ _ _ _ _ _ _ _ _ _ _ _ _ _ _
   | exact ih2 _ _ _ _ _ _ _ _ _ _ _ _ _ _ _
   | exact ratio_Cmp.mono _ _ _ _ _
   | exact ratio_Is.mono _ _ _
   | exact span_valid.mono _ _ _ _ _ _ _ _
   | exact LeO.none _
   | refine LeO.ite ?_ ?_
   | refine LeO.bind ?_ (fun _ => ?_)
  ·
   intro y0 y1 y2 y3 y4 y5 y6 y7 y8 y9 y10 y11 y12 y13 y14
   unfold span_Within.j2
   repeat' first
   | (with_reducible exact ih0 _ _ _ _ _ _ _ _ _ _ _ _ _ _ _)
   | (with_reducible exact ih1 _ _ _ _ _ _ _ _ _ _ _ _ _ _ _)
   | (with_reducible exact ih2 _ _ _ _ _ _ _ _ _ _ _ _ _ _ _)
   | (with_reducible exact ratio_Cmp.mono _ _ _ _ _)
   | (with_reducible exact ratio_Is.mono _ _ _)
   | (with_reducible exact span_valid.mono _ _ _ _ _ _ _ _)
   | (with_reducible exact LeO.refl _)
   | (with_reducible exact LeO.none _)
   | (with_reducible refine LeO.ite ?_ ?_)
   | (with_reducible refine LeO.bind ?_ (fun _ => ?_))
   | exact ih0 _ _ _ _ _ _ _ _ _ _ _ _ _ _ _
   | exact ih1 _ _ _ _ _ _ _ _ _ _ _ _ _ _ _
   | exact ih2 _ _ _ _ _ _ _ _ _ _ _ _ _ _ _
   | exact ratio_Cmp.mono _ _ _ _ _
   | exact ratio_Is.mono _ _ _
   | exact span_valid.mono _ _ _ _ _ _ _ _
   | exact LeO.none _
   | refine LeO.ite ?_ ?_
   | refine LeO.bind ?_ (fun _ => ?_)
theorem span_Within.mono : ∀ a0 a1 a2 a3 a4 a5 a6 a7 a8 a9 a10 a11 a12 a13 k, LeO (span_Within.f k a0 a1 a2 a3 a4 a5 a6 a7 a8 a9 a10 a11 a12 a13) (span_Within.f (k + 1) a0 a1 a2 a3 a4 a5 a6 a7 a8 a9 a10 a11 a12 a13) := by
 intro a0 a1 a2 a3 a4 a5 a6 a7 a8 a9 a10 a11 a12 a13 k
 obtain ⟨ih0, ih1, ih2⟩ := span_Within.mono_l k
 unfold span_Within.f
 repeat' first
   | (with_reducible exact ih0 _ _ _ _ _ _ _ _ _ _ _ _ _ _ _)
   | (with_reducible exact ih1 _ _ _ _ _ _ _ _ _ _ _ _ _ _ _)
   | (with_reducible exact ih2 _ _ _ _ _ _ _ _ _ _ _ _ _ _ _)
   | (with_reducible exact ratio_Cmp.mono _ _ _ _ _)
   | (with_reducible exact ratio_Is.mono _ _ _)
   | (with_reducible exact span_valid.mono _ _ _ _ _ _ _ _)
   | (with_reducible exact LeO.refl _)
   | (with_reducible exact LeO.none _)
   | (with_reducible refine LeO.ite ?_ ?_)
   | (with_reducible refine LeO.bind ?_ (fun _ => ?_))
   | exact ih0 _ _ _ _ _ _ _ _ _ _ _ _ _ _ _
   | exact ih1 _ _ _ _ _ _ _ _ _ _ _ _ _ _ _
   | exact ih2 _ _ _ _ _ _ _ _ _ _ _ _ _ _ _
   | exact ratio_Cmp.mono _ _ _ _ _
   | exact ratio_Is.mono _ _ _
   | exact span_valid.mono _ _ _ _ _ _ _ _
   | exact LeO.none _
   | refine LeO.ite ?_ ?_
   | refine LeO.bind ?_ (fun _ => ?_)
set_option maxHeartbeats 8000000 in
set_option maxRecDepth 100000 in
theorem span_Within.calls (k : Nat) (a0_0 : Int) (a0_1 : Int) (a0_2 : Int) (a0_3 : Int) (a0_4 : Int) (a0_5 : Bool) (a0_6 : Bool) (a1_0 : Int) (a1_1 : Int) (a1_2 : Int) (a1_3 : Int) (a1_4 : Int) (a1_5 : Bool) (a1_6 : Bool) (r : Bool) (w : World) (h : span_Within.f k a0_0 a0_1 a0_2 a0_3 a0_4 a0_5 a0_6 a1_0 a1_1 a1_2 a1_3 a1_4 a1_5 a1_6 = some r) :
  Calls Tryz.prog 8 #[.agg #[.int .i64 a0_0, .int .i64 a0_1, .int .i64 a0_2, .int .i64 a0_3, .int .i64 a0_4, .bool a0_5, .bool a0_6], .agg #[.int .i64 a1_0, .int .i64 a1_1, .int .i64 a1_2, .int .i64 a1_3, .int .i64 a1_4, .bool a1_5, .bool a1_6]] w fun e w' => e = .returned (.bool r) ∧ Below w.heap.size w w' := by
 have hu25 := Tryz.underlying25; have hu23 := Tryz.underlying23; have HB := Aside0.mk (Below.refl w.heap.size w); have H : ((span_valid.f k a0_0 a0_1 a0_2 a0_3 a0_4 a0_5 a0_6).bind fun bt197 => ((span_valid.f k a1_0 a1_1 a1_2 a1_3 a1_4 a1_5 a1_6).bind fun bt204 => (if bt197.2.2.2.2.2.1 = true then (span_Within.j0 k (!bt204.2.2.2.2.2.1) bt197.1 bt197.2.1 bt197.2.2.1 bt197.2.2.2.1 bt197.2.2.2.2.1 bt197.2.2.2.2.2.1 bt197.2.2.2.2.2.2 bt204.1 bt204.2.1 bt204.2.2.1 bt204.2.2.2.1 bt204.2.2.2.2.1 bt204.2.2.2.2.2.1 bt204.2.2.2.2.2.2) else (span_Within.j0 k false bt197.1 bt197.2.1 bt197.2.2.1 bt197.2.2.2.1 bt197.2.2.2.2.1 bt197.2.2.2.2.2.1 bt197.2.2.2.2.2.2 bt204.1 bt204.2.1 bt204.2.2.1 bt204.2.2.2.1 bt204.2.2.2.2.1 bt204.2.2.2.2.2.1 bt204.2.2.2.2.2.2)))) = some r := h; clear h; replace H := Option.bind_eq_some_iff.mp H; obtain ⟨⟨t197, t198, t199, t200, t201, t202, t203⟩, A30, H⟩ := H; (try dsimp only at H); have A3 := Aside0.mk A30; clear A30; replace H := Option.bind_eq_some_iff.mp H; obtain ⟨⟨t204, t205, t206, t207, t208, t209, t210⟩, A40, H⟩ := H; (try dsimp only at H); have A4 := Aside0.mk A40; clear A40; have HC5 := Aside0.mk H; clear H; go_enter Tryz.func8, Tryz.ntmps8; (try go_wp2_with (first | ((with_reducible refine gate_dst (N := 2) rfl ?_); refine bx_ 2 #[.int .i64 a0_0, .int .i64 a0_1, .int .i64 a0_2, .int .i64 a0_3, .int .i64 a0_4, .bool a0_5, .bool a0_6] 25 ?_; intro gb195 hg w6 BK195 hb; have GE195 := hz_ hg HB; replace HB := hs HB hb; clear hb hg) | ((with_reducible refine gate_dst (N := 3) rfl ?_); refine bx_ 3 #[.int .i64 a1_0, .int .i64 a1_1, .int .i64 a1_2, .int .i64 a1_3, .int .i64 a1_4, .bool a1_5, .bool a1_6] 25 ?_; intro gb196 hg w7 BK196 hb; have GE196 := ge_ w hg; have NB195_196 := nlk hg BK195; have NB196_195 := ngk hg BK195; replace BK195 := kb BK195 hb; replace HB := hb_ w hb; clear hb hg))); replace BK195 := kd BK195; replace BK196 := kd BK196; replace HB := Aside0.mk (below_drew1 HB.out); refine start_ (n := 6) (S := fun w' => w'.cell? ⟨gb195, 0, none⟩ = some (.int .i64 a0_0) ∧ w'.cell? ⟨gb195, 1, none⟩ = some (.int .i64 a0_1) ∧ w'.cell? ⟨gb195, 2, none⟩ = some (.int .i64 a0_2) ∧ w'.cell? ⟨gb195, 3, none⟩ = some (.int .i64 a0_3) ∧ w'.cell? ⟨gb195, 4, none⟩ = some (.int .i64 a0_4) ∧ w'.cell? ⟨gb195, 5, none⟩ = some (.bool a0_5) ∧ w'.cell? ⟨gb195, 6, none⟩ = some (.bool a0_6) ∧ w'.cell? ⟨gb196, 0, none⟩ = some (.int .i64 a1_0) ∧ w'.cell? ⟨gb196, 1, none⟩ = some (.int .i64 a1_1) ∧ w'.cell? ⟨gb196, 2, none⟩ = some (.int .i64 a1_2) ∧ w'.cell? ⟨gb196, 3, none⟩ = some (.int .i64 a1_3) ∧ w'.cell? ⟨gb196, 4, none⟩ = some (.int .i64 a1_4) ∧ w'.cell? ⟨gb196, 5, none⟩ = some (.bool a1_5) ∧ w'.cell? ⟨gb196, 6, none⟩ = some (.bool a1_6)) (ds := [4, 5]) (bA 6 0) (by kernel_rfl) rfl rfl ⟨(blk_cell BK195.out 0).trans rfl, (blk_cell BK195.out 1).trans rfl, (blk_cell BK195.out 2).trans rfl, (blk_cell BK195.out 3).trans rfl, (blk_cell BK195.out 4).trans rfl, (blk_cell BK195.out 5).trans rfl, (blk_cell BK195.out 6).trans rfl, (blk_cell BK196.out 0).trans rfl, (blk_cell BK196.out 1).trans rfl, (blk_cell BK196.out 2).trans rfl, (blk_cell BK196.out 3).trans rfl, (blk_cell BK196.out 4).trans rfl, (blk_cell BK196.out 5).trans rfl, (blk_cell BK196.out 6).trans rfl⟩ (fun hHeld => ?_); generalize w7.drew = w8 at BK195 BK196 HB hHeld ⊢; have hH0 := hHeld; have HBW := hbw w8; refine take_ (i := 0) (N := some 5) (v := ?_) (a' := ?_) (bA 6 1) rfl rfl (by kernel_rfl) (fun _ _ _ h => h) (Or.inl ⟨by rfl, ?_⟩) hHeld ?_ ?_; rotate_left
 · rintro w' ⟨s0, s1, s2, s3, s4, s5, s6, s7, s8, s9, s10, s11, s12, s13⟩; go_simp; with_reducible rfl
 rotate_left
 · simp only [ap]; rfl
 refine take_ (i := 2) (N := some 7) (v := ?_) (a' := ?_) (bA 6 5) rfl rfl (by kernel_rfl) (fun _ _ _ h => h) (Or.inl ⟨by rfl, ?_⟩) hHeld ?_ ?_; rotate_left
 · rintro w' ⟨s0, s1, s2, s3, s4, s5, s6, s7, s8, s9, s10, s11, s12, s13⟩; go_simp; with_reducible rfl
 rotate_left
 · simp only [ap]; rfl
 refine one_ (i := 1) (N := some 6) (bA 6 7) rfl rfl (by kernel_rfl) (by decide) (fun K hK => ?_); refine goes_ Tryz.func30 (by kernel_rfl) rfl #[.agg #[.int .i64 a0_0, .int .i64 a0_1, .int .i64 a0_2, .int .i64 a0_3, .int .i64 a0_4, .bool a0_5, .bool a0_6]] (by rfl) rfl rfl (by (try simp only [mp]); first | done | rfl | (simp only [ld]; rfl)) ?_; (with_reducible refine (span_valid.calls k a0_0 a0_1 a0_2 a0_3 a0_4 a0_5 a0_6 t197 t198 t199 t200 t201 t202 t203 _ A3.out).mono ?_); rintro e w9 ⟨rfl, hb⟩; refine ⟨_, rfl, ?_⟩; replace HBW := hs HBW hb; clear hb; refine hK.out _ _ (hc8 HBW.out (hs6 HBW.out) hH0) (fun hHeld => ?_); clear hK K; refine norm_ (a' := ?_) ?_ ?_; rotate_left
 · (show Act.put _ (some 6) _ = _); simp only [ap]; rfl
 refine one_ (i := 3) (N := some 8) (bA 6 15) rfl rfl (by kernel_rfl) (by decide) (fun K hK => ?_); refine goes_ Tryz.func30 (by kernel_rfl) rfl #[.agg #[.int .i64 a1_0, .int .i64 a1_1, .int .i64 a1_2, .int .i64 a1_3, .int .i64 a1_4, .bool a1_5, .bool a1_6]] (by rfl) rfl rfl (by (try simp only [mp]); first | done | rfl | (simp only [ld]; rfl)) ?_; (with_reducible refine (span_valid.calls k a1_0 a1_1 a1_2 a1_3 a1_4 a1_5 a1_6 t204 t205 t206 t207 t208 t209 t210 _ A4.out).mono ?_); rintro e w10 ⟨rfl, hb⟩; refine ⟨_, rfl, ?_⟩; replace HBW := hs HBW hb; clear hb; refine hK.out _ _ (hc8 HBW.out (hs6 HBW.out) hH0) (fun hHeld => ?_); clear hK K; refine norm_ (a' := ?_) ?_ ?_; rotate_left
 · (show Act.put _ (some 8) _ = _); simp only [ap]; rfl
 replace BK195 := kb BK195 HBW.out; replace BK196 := kb BK196 HBW.out; replace HB := hs HB HBW.out; refine last_ (i := 4) (N := none) (bA 6 31) rfl rfl (by kernel_rfl) (by decide) (fun K hK => ?_); have hs11 : w10.cell? ⟨gb195, 0, none⟩ = some (.int .i64 a0_0) := (blk_cell BK195.out 0).trans rfl; have hfs11 := blk_frozen BK195.out 0; have hns11_1 := NB196_195.out; have hms11_1 := NB195_196.out; have hs12 : w10.cell? ⟨gb195, 1, none⟩ = some (.int .i64 a0_1) := (blk_cell BK195.out 1).trans rfl; have hfs12 := blk_frozen BK195.out 1; have hns12_1 := NB196_195.out; have hms12_1 := NB195_196.out; have hs13 : w10.cell? ⟨gb195, 2, none⟩ = some (.int .i64 a0_2) := (blk_cell BK195.out 2).trans rfl; have hfs13 := blk_frozen BK195.out 2; have hns13_1 := NB196_195.out; have hms13_1 := NB195_196.out; have hs14 : w10.cell? ⟨gb195, 3, none⟩ = some (.int .i64 a0_3) := (blk_cell BK195.out 3).trans rfl; have hfs14 := blk_frozen BK195.out 3; have hns14_1 := NB196_195.out; have hms14_1 := NB195_196.out; have hs15 : w10.cell? ⟨gb195, 4, none⟩ = some (.int .i64 a0_4) := (blk_cell BK195.out 4).trans rfl; have hfs15 := blk_frozen BK195.out 4; have hns15_1 := NB196_195.out; have hms15_1 := NB195_196.out; have hs16 : w10.cell? ⟨gb195, 5, none⟩ = some (.bool a0_5) := (blk_cell BK195.out 5).trans rfl; have hfs16 := blk_frozen BK195.out 5; have hns16_1 := NB196_195.out; have hms16_1 := NB195_196.out; have hs17 : w10.cell? ⟨gb195, 6, none⟩ = some (.bool a0_6) := (blk_cell BK195.out 6).trans rfl; have hfs17 := blk_frozen BK195.out 6; have hns17_1 := NB196_195.out; have hms17_1 := NB195_196.out; refine skip_ (w1 := ?_) (by rfl) rfl ?_ ?_; rotate_left
 · go_simp; rfl
 refine hK.out _ _ ?_; clear hK K; generalize hwz : World.setCell _ _ _ = wz; have BZ196 := Aside0.mk (hwz ▸ bfz7 BK196.out NB196_195.out); refine last_ (i := 5) (N := none) (bA 6 63) rfl rfl (by kernel_rfl) (by decide) (fun K hK => ?_); have hs18 : wz.cell? ⟨gb196, 0, none⟩ = some (.int .i64 a1_0) := (blk_cell BZ196.out 0).trans rfl; have hfs18 := blk_frozen BZ196.out 0; have hns18_0 := NB195_196.out; have hms18_0 := NB196_195.out; have hs19 : wz.cell? ⟨gb196, 1, none⟩ = some (.int .i64 a1_1) := (blk_cell BZ196.out 1).trans rfl; have hfs19 := blk_frozen BZ196.out 1; have hns19_0 := NB195_196.out; have hms19_0 := NB196_195.out; have hs20 : wz.cell? ⟨gb196, 2, none⟩ = some (.int .i64 a1_2) := (blk_cell BZ196.out 2).trans rfl; have hfs20 := blk_frozen BZ196.out 2; have hns20_0 := NB195_196.out; have hms20_0 := NB196_195.out; have hs21 : wz.cell? ⟨gb196, 3, none⟩ = some (.int .i64 a1_3) := (blk_cell BZ196.out 3).trans rfl; have hfs21 := blk_frozen BZ196.out 3; have hns21_0 := NB195_196.out; have hms21_0 := NB196_195.out; have hs22 : wz.cell? ⟨gb196, 4, none⟩ = some (.int .i64 a1_4) := (blk_cell BZ196.out 4).trans rfl; have hfs22 := blk_frozen BZ196.out 4; have hns22_0 := NB195_196.out; have hms22_0 := NB196_195.out; have hs23 : wz.cell? ⟨gb196, 5, none⟩ = some (.bool a1_5) := (blk_cell BZ196.out 5).trans rfl; have hfs23 := blk_frozen BZ196.out 5; have hns23_0 := NB195_196.out; have hms23_0 := NB196_195.out; have hs24 : wz.cell? ⟨gb196, 6, none⟩ = some (.bool a1_6) := (blk_cell BZ196.out 6).trans rfl; have hfs24 := blk_frozen BZ196.out 6; have hns24_0 := NB195_196.out; have hms24_0 := NB196_195.out; refine skip_ (w1 := ?_) (by rfl) rfl ?_ ?_; rotate_left
 · go_simp; rfl
 refine hK.out _ _ ?_; clear hK K; subst hwz; refine done_ (by kernel_rfl) ?_; clear HBW hH0; go_upto_region 2 with (fail)
 go_cut [9] (fun v9 wc => ∃ (kq : Nat) (x9_4 : Bool), v9 = .bool x9_4 ∧ Aside0 (span_Within.j0 kq x9_4 t197 t198 t199 t200 t201 t202 t203 t204 t205 t206 t207 t208 t209 t210 = some r) ∧ Aside0 (kq ≤ k) ∧ Aside0 (wc.heap[gb195]? = some (.cells #[.int .i64 t197, .int .i64 t198, .int .i64 t199, .int .i64 t200, .int .i64 t201, .bool t202, .bool t203] 25 (0, 0))) ∧ Aside0 (wc.heap[gb196]? = some (.cells #[.int .i64 t204, .int .i64 t205, .int .i64 t206, .int .i64 t207, .int .i64 t208, .bool t209, .bool t210] 25 (0, 0))) ∧ Aside0 (Below w.heap.size w wc))
 case first =>
  have H := HC5.out; clear HC5; by_cases c25 : t202 = true
  ·
   subst c25; rw [if_pos rfl] at H; have H' := Aside0.mk H; clear H; have hnb26 := NB195_196.out; have hnc26 := NB196_195.out; obtain ⟨hcz27_0, hcz27_1, hcz27_2, hcz27_3, hcz27_4, hcz27_5, hcz27_6⟩ := bc7 BK195.out; obtain ⟨hfz27_0, hfz27_1, hfz27_2, hfz27_3, hfz27_4, hfz27_5, hfz27_6⟩ := bf7 BK195.out; obtain ⟨hcz28_0, hcz28_1, hcz28_2, hcz28_3, hcz28_4, hcz28_5, hcz28_6⟩ := bc7 BK196.out; obtain ⟨hfz28_0, hfz28_1, hfz28_2, hfz28_3, hfz28_4, hfz28_5, hfz28_6⟩ := bf7 BK196.out; go_wp2; go_meet
   case rel => exact ⟨_, (!t209), (by first | rfl | (simp; done) | (simp [*]; done)), H', ⟨by first | omega | exact Nat.le_refl _⟩, ⟨by (iterate 7 refine f1 NB195_196 ?_); exact rq BK195.out (by rfl)⟩, ⟨by refine bk ?_; refine blk_put (cs := #[.int .i64 t204, .int .i64 t205, .int .i64 t206, .int .i64 t207, .int .i64 t208, .bool t209, .bool a1_6]) ?_ 6 _ rfl; refine bk ?_; refine blk_put (cs := #[.int .i64 t204, .int .i64 t205, .int .i64 t206, .int .i64 t207, .int .i64 t208, .bool a1_5, .bool a1_6]) ?_ 5 _ rfl; refine bk ?_; refine blk_put (cs := #[.int .i64 t204, .int .i64 t205, .int .i64 t206, .int .i64 t207, .int .i64 a1_4, .bool a1_5, .bool a1_6]) ?_ 4 _ rfl; refine bk ?_; refine blk_put (cs := #[.int .i64 t204, .int .i64 t205, .int .i64 t206, .int .i64 a1_3, .int .i64 a1_4, .bool a1_5, .bool a1_6]) ?_ 3 _ rfl; refine bk ?_; refine blk_put (cs := #[.int .i64 t204, .int .i64 t205, .int .i64 a1_2, .int .i64 a1_3, .int .i64 a1_4, .bool a1_5, .bool a1_6]) ?_ 2 _ rfl; refine bk ?_; refine blk_put (cs := #[.int .i64 t204, .int .i64 a1_1, .int .i64 a1_2, .int .i64 a1_3, .int .i64 a1_4, .bool a1_5, .bool a1_6]) ?_ 1 _ rfl; refine bk ?_; refine blk_put (cs := #[.int .i64 a1_0, .int .i64 a1_1, .int .i64 a1_2, .int .i64 a1_3, .int .i64 a1_4, .bool a1_5, .bool a1_6]) ?_ 0 _ rfl; (iterate 7 refine f1 NB196_195 ?_); refine bk ?_; exact BK196.out⟩, ab2_⟩
  ·
   replace c25 := Bool.eq_false_iff.mpr c25; subst c25; rw [if_neg (show ¬ (false = true) by decide)] at H; have H' := Aside0.mk H; clear H; have hnb29 := NB195_196.out; have hnc29 := NB196_195.out; obtain ⟨hcz30_0, hcz30_1, hcz30_2, hcz30_3, hcz30_4, hcz30_5, hcz30_6⟩ := bc7 BK195.out; obtain ⟨hfz30_0, hfz30_1, hfz30_2, hfz30_3, hfz30_4, hfz30_5, hfz30_6⟩ := bf7 BK195.out; go_wp2; go_meet
   case rel => exact ⟨_, (false), (by first | rfl | (simp; done) | (simp [*]; done)), H', ⟨by first | omega | exact Nat.le_refl _⟩, ⟨by (iterate 7 refine f1 NB195_196 ?_); exact rq BK195.out (by rfl)⟩, ⟨by refine bk ?_; refine blk_put (cs := #[.int .i64 t204, .int .i64 t205, .int .i64 t206, .int .i64 t207, .int .i64 t208, .bool t209, .bool a1_6]) ?_ 6 _ rfl; refine bk ?_; refine blk_put (cs := #[.int .i64 t204, .int .i64 t205, .int .i64 t206, .int .i64 t207, .int .i64 t208, .bool a1_5, .bool a1_6]) ?_ 5 _ rfl; refine bk ?_; refine blk_put (cs := #[.int .i64 t204, .int .i64 t205, .int .i64 t206, .int .i64 t207, .int .i64 a1_4, .bool a1_5, .bool a1_6]) ?_ 4 _ rfl; refine bk ?_; refine blk_put (cs := #[.int .i64 t204, .int .i64 t205, .int .i64 t206, .int .i64 a1_3, .int .i64 a1_4, .bool a1_5, .bool a1_6]) ?_ 3 _ rfl; refine bk ?_; refine blk_put (cs := #[.int .i64 t204, .int .i64 t205, .int .i64 a1_2, .int .i64 a1_3, .int .i64 a1_4, .bool a1_5, .bool a1_6]) ?_ 2 _ rfl; refine bk ?_; refine blk_put (cs := #[.int .i64 t204, .int .i64 a1_1, .int .i64 a1_2, .int .i64 a1_3, .int .i64 a1_4, .bool a1_5, .bool a1_6]) ?_ 1 _ rfl; refine bk ?_; refine blk_put (cs := #[.int .i64 a1_0, .int .i64 a1_1, .int .i64 a1_2, .int .i64 a1_3, .int .i64 a1_4, .bool a1_5, .bool a1_6]) ?_ 0 _ rfl; (iterate 7 refine f1 NB196_195 ?_); refine bk ?_; exact BK196.out⟩, ab2_⟩
 case rest =>
  clear HC5; obtain ⟨kq, x9_4, rfl, HA, HJ4, BK195, BK196, HB⟩ := hcut; cases kq with
  | zero => exact absurd HA.out (by simp [span_Within.j0])
  | succ kj4 =>
   have H := HA.out; clear HA; simp only [span_Within.j0] at H; by_cases c31 : x9_4 = true
   · subst c31; rw [if_pos rfl] at H; obtain rfl := Option.some.inj H; go_wp2; go_ret; exact en_
   ·
    replace c31 := Bool.eq_false_iff.mpr c31; subst c31; rw [if_neg (show ¬ (false = true) by decide)] at H; by_cases c32 : t203 = true
    · subst c32; rw [if_pos rfl] at H; obtain rfl := Option.some.inj H; have hnb33 := NB195_196.out; have hnc33 := NB196_195.out; obtain ⟨hcz34_0, hcz34_1, hcz34_2, hcz34_3, hcz34_4, hcz34_5, hcz34_6⟩ := bc7 BK195.out; obtain ⟨hfz34_0, hfz34_1, hfz34_2, hfz34_3, hfz34_4, hfz34_5, hfz34_6⟩ := bf7 BK195.out; go_wp2; go_ret; exact en_
    ·
     replace c32 := Bool.eq_false_iff.mpr c32; subst c32; rw [if_neg (show ¬ (false = true) by decide)] at H; by_cases c35 : t210 = true
     · subst c35; rw [if_pos rfl] at H; obtain rfl := Option.some.inj H; have hnb36 := NB195_196.out; have hnc36 := NB196_195.out; obtain ⟨hcz37_0, hcz37_1, hcz37_2, hcz37_3, hcz37_4, hcz37_5, hcz37_6⟩ := bc7 BK195.out; obtain ⟨hfz37_0, hfz37_1, hfz37_2, hfz37_3, hfz37_4, hfz37_5, hfz37_6⟩ := bf7 BK195.out; obtain ⟨hcz38_0, hcz38_1, hcz38_2, hcz38_3, hcz38_4, hcz38_5, hcz38_6⟩ := bc7 BK196.out; obtain ⟨hfz38_0, hfz38_1, hfz38_2, hfz38_3, hfz38_4, hfz38_5, hfz38_6⟩ := bf7 BK196.out; go_wp2; go_ret; exact en_
     ·
      replace c35 := Bool.eq_false_iff.mpr c35; subst c35; rw [if_neg (show ¬ (false = true) by decide)] at H; have HC39 := Aside0.mk H; clear H; have hnb40 := NB195_196.out; have hnc40 := NB196_195.out; obtain ⟨hcz41_0, hcz41_1, hcz41_2, hcz41_3, hcz41_4, hcz41_5, hcz41_6⟩ := bc7 BK195.out; obtain ⟨hfz41_0, hfz41_1, hfz41_2, hfz41_3, hfz41_4, hfz41_5, hfz41_6⟩ := bf7 BK195.out; obtain ⟨hcz42_0, hcz42_1, hcz42_2, hcz42_3, hcz42_4, hcz42_5, hcz42_6⟩ := bc7 BK196.out; obtain ⟨hfz42_0, hfz42_1, hfz42_2, hfz42_3, hfz42_4, hfz42_5, hfz42_6⟩ := bf7 BK196.out; go_upto_region 8 with (fail)
      go_cut [23] (fun v23 wc => ∃ (kq : Nat) (x23_38 : Bool), v23 = .bool x23_38 ∧ Aside0 (span_Within.j1 kq x23_38 t197 t198 t199 t200 t201 t202 false t204 t205 t206 t207 t208 t209 false = some r) ∧ Aside0 (kq ≤ kj4) ∧ Aside0 (wc.heap[gb195]? = some (.cells #[.int .i64 t197, .int .i64 t198, .int .i64 t199, .int .i64 t200, .int .i64 t201, .bool t202, .bool false] 25 (0, 0))) ∧ Aside0 (wc.heap[gb196]? = some (.cells #[.int .i64 t204, .int .i64 t205, .int .i64 t206, .int .i64 t207, .int .i64 t208, .bool t209, .bool false] 25 (0, 0))) ∧ Aside0 (Below w.heap.size w wc))
      case first =>
       have H := HC39.out; clear HC39; replace H := Option.bind_eq_some_iff.mp H; obtain ⟨t211, A430, H⟩ := H; (try dsimp only at H); have A43 := Aside0.mk A430; clear A430; by_cases c44 : t211 = true
       ·
        subst c44; rw [if_pos rfl] at H; replace H := Option.bind_eq_some_iff.mp H; obtain ⟨t212, A450, H⟩ := H; (try dsimp only at H); have A45 := Aside0.mk A450; clear A450; by_cases c46 : t212 = true
        ·
         subst c46; rw [if_pos rfl] at H; replace H := Option.bind_eq_some_iff.mp H; obtain ⟨t213, A470, H⟩ := H; (try dsimp only at H); have A47 := Aside0.mk A470; clear A470; have H' := Aside0.mk H; clear H; have hnb48 := NB196_195.out; have hnc48 := NB195_196.out; obtain ⟨hcz49_0, hcz49_1, hcz49_2, hcz49_3, hcz49_4, hcz49_5, hcz49_6⟩ := bc7 BK196.out; obtain ⟨hfz49_0, hfz49_1, hfz49_2, hfz49_3, hfz49_4, hfz49_5, hfz49_6⟩ := bf7 BK196.out; go_wp2_with (first | ((with_reducible refine gate_callee (f := 24) rfl ?_); refine goesL_ (some 26) rfl rfl Tryz.func24 (by kernel_rfl) rfl #[.agg #[.int .i64 t204, .int .i64 t205]] rfl (by (try simp only [mp]); first | done | rfl | (simp only [ld]; rfl)) ?_; (with_reducible refine (ratio_Is.calls kj4 t204 t205 true _ A43.out).mono ?_); rintro e w50 ⟨rfl, hb⟩; refine ⟨_, rfl, ?_⟩; replace BK195 := kb BK195 hb; replace BK196 := kb BK196 hb; replace HB := hb_ w hb; obtain ⟨hcz51_0, hcz51_1, hcz51_2, hcz51_3, hcz51_4, hcz51_5, hcz51_6⟩ := bc7 BK195.out; obtain ⟨hfz51_0, hfz51_1, hfz51_2, hfz51_3, hfz51_4, hfz51_5, hfz51_6⟩ := bf7 BK195.out) | (go_at_call 24; (with_reducible refine (ratio_Is.calls kj4 t197 t198 true _ A45.out).mono ?_); rintro e w52 ⟨rfl, hb⟩; replace BK195 := kb BK195 hb; replace BK196 := kb BK196 hb; replace HB := hb_ w hb; obtain ⟨hcz53_0, hcz53_1, hcz53_2, hcz53_3, hcz53_4, hcz53_5, hcz53_6⟩ := bc7 BK195.out; obtain ⟨hfz53_0, hfz53_1, hfz53_2, hfz53_3, hfz53_4, hfz53_5, hfz53_6⟩ := bf7 BK195.out; obtain ⟨hcz54_0, hcz54_1, hcz54_2, hcz54_3, hcz54_4, hcz54_5, hcz54_6⟩ := bc7 BK196.out; obtain ⟨hfz54_0, hfz54_1, hfz54_2, hfz54_3, hfz54_4, hfz54_5, hfz54_6⟩ := bf7 BK196.out) | (go_at_call 25; (with_reducible refine (ratio_Cmp.calls kj4 t197 t198 t204 t205 t213 _ A47.out).mono ?_); rintro e w55 ⟨rfl, hb⟩; replace BK195 := kb BK195 hb; replace BK196 := kb BK196 hb; replace HB := hb_ w hb; )); go_meet
         case rel => exact ⟨_, (decide (t213 < 0)), (by first | rfl | (simp; done) | (simp [*]; done)), H', ⟨by have := HJ4.out; first | omega | exact Nat.le_refl _⟩, ⟨bk BK195.out⟩, ⟨bk BK196.out⟩, ab2_⟩
        ·
         replace c46 := Bool.eq_false_iff.mpr c46; subst c46; rw [if_neg (show ¬ (false = true) by decide)] at H; have H' := Aside0.mk H; clear H; have hnb56 := NB196_195.out; have hnc56 := NB195_196.out; obtain ⟨hcz57_0, hcz57_1, hcz57_2, hcz57_3, hcz57_4, hcz57_5, hcz57_6⟩ := bc7 BK196.out; obtain ⟨hfz57_0, hfz57_1, hfz57_2, hfz57_3, hfz57_4, hfz57_5, hfz57_6⟩ := bf7 BK196.out; go_wp2_with (first | ((with_reducible refine gate_callee (f := 24) rfl ?_); refine goesL_ (some 26) rfl rfl Tryz.func24 (by kernel_rfl) rfl #[.agg #[.int .i64 t204, .int .i64 t205]] rfl (by (try simp only [mp]); first | done | rfl | (simp only [ld]; rfl)) ?_; (with_reducible refine (ratio_Is.calls kj4 t204 t205 true _ A43.out).mono ?_); rintro e w58 ⟨rfl, hb⟩; refine ⟨_, rfl, ?_⟩; replace BK195 := kb BK195 hb; replace BK196 := kb BK196 hb; replace HB := hb_ w hb; obtain ⟨hcz59_0, hcz59_1, hcz59_2, hcz59_3, hcz59_4, hcz59_5, hcz59_6⟩ := bc7 BK195.out; obtain ⟨hfz59_0, hfz59_1, hfz59_2, hfz59_3, hfz59_4, hfz59_5, hfz59_6⟩ := bf7 BK195.out) | (go_at_call 24; (with_reducible refine (ratio_Is.calls kj4 t197 t198 false _ A45.out).mono ?_); rintro e w60 ⟨rfl, hb⟩; replace BK195 := kb BK195 hb; replace BK196 := kb BK196 hb; replace HB := hb_ w hb; )); go_meet
         case rel => exact ⟨_, (true), (by first | rfl | (simp; done) | (simp [*]; done)), H', ⟨by have := HJ4.out; first | omega | exact Nat.le_refl _⟩, ⟨bk BK195.out⟩, ⟨bk BK196.out⟩, ab2_⟩
       ·
        replace c44 := Bool.eq_false_iff.mpr c44; subst c44; rw [if_neg (show ¬ (false = true) by decide)] at H; have H' := Aside0.mk H; clear H; have hnb61 := NB196_195.out; have hnc61 := NB195_196.out; obtain ⟨hcz62_0, hcz62_1, hcz62_2, hcz62_3, hcz62_4, hcz62_5, hcz62_6⟩ := bc7 BK196.out; obtain ⟨hfz62_0, hfz62_1, hfz62_2, hfz62_3, hfz62_4, hfz62_5, hfz62_6⟩ := bf7 BK196.out; go_wp2_with (first | ((with_reducible refine gate_callee (f := 24) rfl ?_); refine goesL_ (some 26) rfl rfl Tryz.func24 (by kernel_rfl) rfl #[.agg #[.int .i64 t204, .int .i64 t205]] rfl (by (try simp only [mp]); first | done | rfl | (simp only [ld]; rfl)) ?_; (with_reducible refine (ratio_Is.calls kj4 t204 t205 false _ A43.out).mono ?_); rintro e w63 ⟨rfl, hb⟩; refine ⟨_, rfl, ?_⟩; replace BK195 := kb BK195 hb; replace BK196 := kb BK196 hb; replace HB := hb_ w hb; )); go_meet
        case rel => exact ⟨_, (false), (by first | rfl | (simp; done) | (simp [*]; done)), H', ⟨by have := HJ4.out; first | omega | exact Nat.le_refl _⟩, ⟨bk BK195.out⟩, ⟨bk BK196.out⟩, ab2_⟩
      case rest =>
       clear HC39; (try clear c31); (try clear c32); (try clear c35); (try clear hcz41_0 hcz41_1 hcz41_2 hcz41_3 hcz41_4 hcz41_5 hcz41_6); (try clear hcz42_0 hcz42_1 hcz42_2 hcz42_3 hcz42_4 hcz42_5 hcz42_6); (try clear hfz41_0 hfz41_1 hfz41_2 hfz41_3 hfz41_4 hfz41_5 hfz41_6); (try clear hfz42_0 hfz42_1 hfz42_2 hfz42_3 hfz42_4 hfz42_5 hfz42_6); obtain ⟨kq, x23_38, rfl, HA, HJ38, BK195, BK196, HB⟩ := hcut; cases kq with
       | zero => exact absurd HA.out (by simp [span_Within.j1])
       | succ kj38 =>
        have H := HA.out; clear HA; simp only [span_Within.j1] at H; by_cases c64 : x23_38 = true
        · subst c64; rw [if_pos rfl] at H; obtain rfl := Option.some.inj H; go_wp2; go_ret; exact en_
        ·
         replace c64 := Bool.eq_false_iff.mpr c64; subst c64; rw [if_neg (show ¬ (false = true) by decide)] at H; have HC65 := Aside0.mk H; clear H; go_upto_region 10 with (fail)
         go_cut [41] (fun v41 wc => ∃ (kq : Nat) (x41_64 : Bool), v41 = .bool x41_64 ∧ Aside0 (span_Within.j2 kq x41_64 t197 t198 t199 t200 t201 t202 false t204 t205 t206 t207 t208 t209 false = some r) ∧ Aside0 (kq ≤ kj38) ∧ Aside0 (wc.heap[gb195]? = some (.cells #[.int .i64 t197, .int .i64 t198, .int .i64 t199, .int .i64 t200, .int .i64 t201, .bool t202, .bool false] 25 (0, 0))) ∧ Aside0 (wc.heap[gb196]? = some (.cells #[.int .i64 t204, .int .i64 t205, .int .i64 t206, .int .i64 t207, .int .i64 t208, .bool t209, .bool false] 25 (0, 0))) ∧ Aside0 (Below w.heap.size w wc))
         case first =>
          have H := HC65.out; clear HC65; replace H := Option.bind_eq_some_iff.mp H; obtain ⟨t214, A660, H⟩ := H; (try dsimp only at H); have A66 := Aside0.mk A660; clear A660; by_cases c67 : t214 = true
          ·
           subst c67; rw [if_pos rfl] at H; replace H := Option.bind_eq_some_iff.mp H; obtain ⟨t215, A680, H⟩ := H; (try dsimp only at H); have A68 := Aside0.mk A680; clear A680; by_cases c69 : t215 = true
           ·
            subst c69; rw [if_pos rfl] at H; replace H := Option.bind_eq_some_iff.mp H; obtain ⟨t216, A700, H⟩ := H; (try dsimp only at H); have A70 := Aside0.mk A700; clear A700; have H' := Aside0.mk H; clear H; have hnb71 := NB196_195.out; have hnc71 := NB195_196.out; obtain ⟨hcz72_0, hcz72_1, hcz72_2, hcz72_3, hcz72_4, hcz72_5, hcz72_6⟩ := bc7 BK196.out; obtain ⟨hfz72_0, hfz72_1, hfz72_2, hfz72_3, hfz72_4, hfz72_5, hfz72_6⟩ := bf7 BK196.out; go_wp2_with (first | ((with_reducible refine gate_callee (f := 24) rfl ?_); refine goesL_ (some 44) rfl rfl Tryz.func24 (by kernel_rfl) rfl #[.agg #[.int .i64 t206, .int .i64 t207]] rfl (by (try simp only [mp]); first | done | rfl | (simp only [ld]; rfl)) ?_; (with_reducible refine (ratio_Is.calls kj38 t206 t207 true _ A66.out).mono ?_); rintro e w73 ⟨rfl, hb⟩; refine ⟨_, rfl, ?_⟩; replace BK195 := kb BK195 hb; replace BK196 := kb BK196 hb; replace HB := hb_ w hb; obtain ⟨hcz74_0, hcz74_1, hcz74_2, hcz74_3, hcz74_4, hcz74_5, hcz74_6⟩ := bc7 BK195.out; obtain ⟨hfz74_0, hfz74_1, hfz74_2, hfz74_3, hfz74_4, hfz74_5, hfz74_6⟩ := bf7 BK195.out) | (go_at_call 24; (with_reducible refine (ratio_Is.calls kj38 t199 t200 true _ A68.out).mono ?_); rintro e w75 ⟨rfl, hb⟩; replace BK195 := kb BK195 hb; replace BK196 := kb BK196 hb; replace HB := hb_ w hb; obtain ⟨hcz76_0, hcz76_1, hcz76_2, hcz76_3, hcz76_4, hcz76_5, hcz76_6⟩ := bc7 BK195.out; obtain ⟨hfz76_0, hfz76_1, hfz76_2, hfz76_3, hfz76_4, hfz76_5, hfz76_6⟩ := bf7 BK195.out; obtain ⟨hcz77_0, hcz77_1, hcz77_2, hcz77_3, hcz77_4, hcz77_5, hcz77_6⟩ := bc7 BK196.out; obtain ⟨hfz77_0, hfz77_1, hfz77_2, hfz77_3, hfz77_4, hfz77_5, hfz77_6⟩ := bf7 BK196.out) | (go_at_call 25; (with_reducible refine (ratio_Cmp.calls kj38 t199 t200 t206 t207 t216 _ A70.out).mono ?_); rintro e w78 ⟨rfl, hb⟩; replace BK195 := kb BK195 hb; replace BK196 := kb BK196 hb; replace HB := hb_ w hb; )); go_meet
            case rel => exact ⟨_, (decide (t216 > 0)), (by first | rfl | (simp; done) | (simp [*]; done)), H', ⟨by have := HJ4.out; have := HJ38.out; first | omega | exact Nat.le_refl _⟩, ⟨bk BK195.out⟩, ⟨bk BK196.out⟩, ab2_⟩
           ·
            replace c69 := Bool.eq_false_iff.mpr c69; subst c69; rw [if_neg (show ¬ (false = true) by decide)] at H; have H' := Aside0.mk H; clear H; have hnb79 := NB196_195.out; have hnc79 := NB195_196.out; obtain ⟨hcz80_0, hcz80_1, hcz80_2, hcz80_3, hcz80_4, hcz80_5, hcz80_6⟩ := bc7 BK196.out; obtain ⟨hfz80_0, hfz80_1, hfz80_2, hfz80_3, hfz80_4, hfz80_5, hfz80_6⟩ := bf7 BK196.out; go_wp2_with (first | ((with_reducible refine gate_callee (f := 24) rfl ?_); refine goesL_ (some 44) rfl rfl Tryz.func24 (by kernel_rfl) rfl #[.agg #[.int .i64 t206, .int .i64 t207]] rfl (by (try simp only [mp]); first | done | rfl | (simp only [ld]; rfl)) ?_; (with_reducible refine (ratio_Is.calls kj38 t206 t207 true _ A66.out).mono ?_); rintro e w81 ⟨rfl, hb⟩; refine ⟨_, rfl, ?_⟩; replace BK195 := kb BK195 hb; replace BK196 := kb BK196 hb; replace HB := hb_ w hb; obtain ⟨hcz82_0, hcz82_1, hcz82_2, hcz82_3, hcz82_4, hcz82_5, hcz82_6⟩ := bc7 BK195.out; obtain ⟨hfz82_0, hfz82_1, hfz82_2, hfz82_3, hfz82_4, hfz82_5, hfz82_6⟩ := bf7 BK195.out) | (go_at_call 24; (with_reducible refine (ratio_Is.calls kj38 t199 t200 false _ A68.out).mono ?_); rintro e w83 ⟨rfl, hb⟩; replace BK195 := kb BK195 hb; replace BK196 := kb BK196 hb; replace HB := hb_ w hb; )); go_meet
            case rel => exact ⟨_, (true), (by first | rfl | (simp; done) | (simp [*]; done)), H', ⟨by have := HJ4.out; have := HJ38.out; first | omega | exact Nat.le_refl _⟩, ⟨bk BK195.out⟩, ⟨bk BK196.out⟩, ab2_⟩
          ·
           replace c67 := Bool.eq_false_iff.mpr c67; subst c67; rw [if_neg (show ¬ (false = true) by decide)] at H; have H' := Aside0.mk H; clear H; have hnb84 := NB196_195.out; have hnc84 := NB195_196.out; obtain ⟨hcz85_0, hcz85_1, hcz85_2, hcz85_3, hcz85_4, hcz85_5, hcz85_6⟩ := bc7 BK196.out; obtain ⟨hfz85_0, hfz85_1, hfz85_2, hfz85_3, hfz85_4, hfz85_5, hfz85_6⟩ := bf7 BK196.out; go_wp2_with (first | ((with_reducible refine gate_callee (f := 24) rfl ?_); refine goesL_ (some 44) rfl rfl Tryz.func24 (by kernel_rfl) rfl #[.agg #[.int .i64 t206, .int .i64 t207]] rfl (by (try simp only [mp]); first | done | rfl | (simp only [ld]; rfl)) ?_; (with_reducible refine (ratio_Is.calls kj38 t206 t207 false _ A66.out).mono ?_); rintro e w86 ⟨rfl, hb⟩; refine ⟨_, rfl, ?_⟩; replace BK195 := kb BK195 hb; replace BK196 := kb BK196 hb; replace HB := hb_ w hb; )); go_meet
           case rel => exact ⟨_, (false), (by first | rfl | (simp; done) | (simp [*]; done)), H', ⟨by have := HJ4.out; have := HJ38.out; first | omega | exact Nat.le_refl _⟩, ⟨bk BK195.out⟩, ⟨bk BK196.out⟩, ab2_⟩
         case rest =>
          clear HC65; (try clear c64); obtain ⟨kq, x41_64, rfl, HA, HJ64, BK195, BK196, HB⟩ := hcut; cases kq with
          | zero => exact absurd HA.out (by simp [span_Within.j2])
          | succ kj64 =>
           have H := HA.out; clear HA; simp only [span_Within.j2] at H; by_cases c87 : x41_64 = true
           · subst c87; rw [if_pos rfl] at H; obtain rfl := Option.some.inj H; go_wp2; go_ret; exact en_
           ·
            replace c87 := Bool.eq_false_iff.mpr c87; subst c87; rw [if_neg (show ¬ (false = true) by decide)] at H; by_cases c88 : t208 = 0
            · rw [if_pos c88] at H; have c88b0 : (t208 == 0) = true := beq_iff_eq.mpr c88; have c88b1 : (t208 != 0) = false := bne_eq_false_iff_eq.mpr c88; clear c88; obtain rfl := Option.some.inj H; have hnb89 := NB196_195.out; have hnc89 := NB195_196.out; obtain ⟨hcz90_0, hcz90_1, hcz90_2, hcz90_3, hcz90_4, hcz90_5, hcz90_6⟩ := bc7 BK196.out; obtain ⟨hfz90_0, hfz90_1, hfz90_2, hfz90_3, hfz90_4, hfz90_5, hfz90_6⟩ := bf7 BK196.out; go_wp2; go_ret; exact en_
            ·
             rw [if_neg c88] at H; have c88b0 : (t208 == 0) = false := beq_eq_false_iff_ne.mpr c88; have c88b1 : (t208 != 0) = true := bne_iff_ne.mpr c88; by_cases c91 : t201 = 0
             · rw [if_pos c91] at H; have c91b0 : (t201 == 0) = true := beq_iff_eq.mpr c91; have c91b1 : (t201 != 0) = false := bne_eq_false_iff_eq.mpr c91; clear c91; obtain rfl := Option.some.inj H; have hnb92 := NB196_195.out; have hnc92 := NB195_196.out; obtain ⟨hcz93_0, hcz93_1, hcz93_2, hcz93_3, hcz93_4, hcz93_5, hcz93_6⟩ := bc7 BK196.out; obtain ⟨hfz93_0, hfz93_1, hfz93_2, hfz93_3, hfz93_4, hfz93_5, hfz93_6⟩ := bf7 BK196.out; obtain ⟨hcz94_0, hcz94_1, hcz94_2, hcz94_3, hcz94_4, hcz94_5, hcz94_6⟩ := bc7 BK195.out; obtain ⟨hfz94_0, hfz94_1, hfz94_2, hfz94_3, hfz94_4, hfz94_5, hfz94_6⟩ := bf7 BK195.out; go_wp2; go_ret; exact en_
             · rw [if_neg c91] at H; have c91b0 : (t201 == 0) = false := beq_eq_false_iff_ne.mpr c91; have c91b1 : (t201 != 0) = true := bne_iff_ne.mpr c91; obtain rfl := Option.some.inj H; have hnb95 := NB196_195.out; have hnc95 := NB195_196.out; obtain ⟨hcz96_0, hcz96_1, hcz96_2, hcz96_3, hcz96_4, hcz96_5, hcz96_6⟩ := bc7 BK196.out; obtain ⟨hfz96_0, hfz96_1, hfz96_2, hfz96_3, hfz96_4, hfz96_5, hfz96_6⟩ := bf7 BK196.out; obtain ⟨hcz97_0, hcz97_1, hcz97_2, hcz97_3, hcz97_4, hcz97_5, hcz97_6⟩ := bc7 BK195.out; obtain ⟨hfz97_0, hfz97_1, hfz97_2, hfz97_3, hfz97_4, hfz97_5, hfz97_6⟩ := bf7 BK195.out; go_wp2; go_ret; exact en_
mutual
def serinetteref03_Within.j0 : Nat → Bool → Int → Int → Int → Int → Int → Bool → Bool → Int → Int → Int → Int → Int → Bool → Bool → Option (Bool)
 | 0, _, _, _, _, _, _, _, _, _, _, _, _, _, _, _ => none
 | k + 1, x15, x218000, x218001, x218002, x218003, x218004, x218005, x218006, x219000, x219001, x219002, x219003, x219004, x219005, x219006 => if x15 = true then (some false) else (if x218006 = true then (some true) else (if x219006 = true then (some false) else ((serinetteref01_Is.f k x219000 x219001).bind fun t233 => (if t233 = true then ((serinetteref01_Is.f k x218000 x218001).bind fun t234 => (if t234 = true then ((serinetteref01_Cmp.f k x218000 x218001 x219000 x219001).bind fun t235 => (serinetteref03_Within.j1 k (decide (t235 < 0)) x218000 x218001 x218002 x218003 x218004 x218005 x218006 x219000 x219001 x219002 x219003 x219004 x219005 x219006)) else (serinetteref03_Within.j1 k true x218000 x218001 x218002 x218003 x218004 x218005 x218006 x219000 x219001 x219002 x219003 x219004 x219005 x219006))) else (serinetteref03_Within.j1 k false x218000 x218001 x218002 x218003 x218004 x218005 x218006 x219000 x219001 x219002 x219003 x219004 x219005 x219006)))))
def serinetteref03_Within.j1 : Nat → Bool → Int → Int → Int → Int → Int → Bool → Bool → Int → Int → Int → Int → Int → Bool → Bool → Option (Bool)
 | 0, _, _, _, _, _, _, _, _, _, _, _, _, _, _, _ => none
 | k + 1, x36, x218000, x218001, x218002, x218003, x218004, x218005, x218006, x219000, x219001, x219002, x219003, x219004, x219005, x219006 => if x36 = true then (some false) else ((serinetteref01_Is.f k x219002 x219003).bind fun t236 => (if t236 = true then ((serinetteref01_Is.f k x218002 x218003).bind fun t237 => (if t237 = true then ((serinetteref01_Cmp.f k x218002 x218003 x219002 x219003).bind fun t238 => (serinetteref03_Within.j2 k (decide (t238 > 0)) x218000 x218001 x218002 x218003 x218004 x218005 x218006 x219000 x219001 x219002 x219003 x219004 x219005 x219006)) else (serinetteref03_Within.j2 k true x218000 x218001 x218002 x218003 x218004 x218005 x218006 x219000 x219001 x219002 x219003 x219004 x219005 x219006))) else (serinetteref03_Within.j2 k false x218000 x218001 x218002 x218003 x218004 x218005 x218006 x219000 x219001 x219002 x219003 x219004 x219005 x219006)))
def serinetteref03_Within.j2 : Nat → Bool → Int → Int → Int → Int → Int → Bool → Bool → Int → Int → Int → Int → Int → Bool → Bool → Option (Bool)
 | 0, _, _, _, _, _, _, _, _, _, _, _, _, _, _, _ => none
 | k + 1, x53, x218000, x218001, x218002, x218003, x218004, x218005, x218006, x219000, x219001, x219002, x219003, x219004, x219005, x219006 => if x53 = true then (some false) else (if x219004 = 0 then (some true) else (if x218004 = 0 then (some false) else (some ((Int.tmod x219004 x218004) == 0))))
end
def serinetteref03_Within.f (k : Nat) (a0_0 : Int) (a0_1 : Int) (a0_2 : Int) (a0_3 : Int) (a0_4 : Int) (a0_5 : Bool) (a0_6 : Bool) (a1_0 : Int) (a1_1 : Int) (a1_2 : Int) (a1_3 : Int) (a1_4 : Int) (a1_5 : Bool) (a1_6 : Bool) : Option (Bool) := (serinetteref03_Clean.f k a0_0 a0_1 a0_2 a0_3 a0_4 a0_5 a0_6).bind fun bt219 => ((serinetteref03_Clean.f k a1_0 a1_1 a1_2 a1_3 a1_4 a1_5 a1_6).bind fun bt226 => (if bt219.2.2.2.2.2.1 = true then (serinetteref03_Within.j0 k (!bt226.2.2.2.2.2.1) bt219.1 bt219.2.1 bt219.2.2.1 bt219.2.2.2.1 bt219.2.2.2.2.1 bt219.2.2.2.2.2.1 bt219.2.2.2.2.2.2 bt226.1 bt226.2.1 bt226.2.2.1 bt226.2.2.2.1 bt226.2.2.2.2.1 bt226.2.2.2.2.2.1 bt226.2.2.2.2.2.2) else (serinetteref03_Within.j0 k false bt219.1 bt219.2.1 bt219.2.2.1 bt219.2.2.2.1 bt219.2.2.2.2.1 bt219.2.2.2.2.2.1 bt219.2.2.2.2.2.2 bt226.1 bt226.2.1 bt226.2.2.1 bt226.2.2.2.1 bt226.2.2.2.2.1 bt226.2.2.2.2.2.1 bt226.2.2.2.2.2.2)))
theorem serinetteref03_Within.mono_l : ∀ k, (∀ y0 y1 y2 y3 y4 y5 y6 y7 y8 y9 y10 y11 y12 y13 y14, LeO (serinetteref03_Within.j0 k y0 y1 y2 y3 y4 y5 y6 y7 y8 y9 y10 y11 y12 y13 y14) (serinetteref03_Within.j0 (k + 1) y0 y1 y2 y3 y4 y5 y6 y7 y8 y9 y10 y11 y12 y13 y14)) ∧ (∀ y0 y1 y2 y3 y4 y5 y6 y7 y8 y9 y10 y11 y12 y13 y14, LeO (serinetteref03_Within.j1 k y0 y1 y2 y3 y4 y5 y6 y7 y8 y9 y10 y11 y12 y13 y14) (serinetteref03_Within.j1 (k + 1) y0 y1 y2 y3 y4 y5 y6 y7 y8 y9 y10 y11 y12 y13 y14)) ∧ (∀ y0 y1 y2 y3 y4 y5 y6 y7 y8 y9 y10 y11 y12 y13 y14, LeO (serinetteref03_Within.j2 k y0 y1 y2 y3 y4 y5 y6 y7 y8 y9 y10 y11 y12 y13 y14) (serinetteref03_Within.j2 (k + 1) y0 y1 y2 y3 y4 y5 y6 y7 y8 y9 y10 y11 y12 y13 y14))
 | 0 => ⟨fun _ _ _ _ _ _ _ _ _ _ _ _ _ _ _ r h => by simp [serinetteref03_Within.j0] at h, fun _ _ _ _ _ _ _ _ _ _ _ _ _ _ _ r h => by simp [serinetteref03_Within.j1] at h, fun _ _ _ _ _ _ _ _ _ _ _ _ _ _ _ r h => by simp [serinetteref03_Within.j2] at h⟩
 | k + 1 => by
  obtain ⟨ih0, ih1, ih2⟩ := serinetteref03_Within.mono_l k
  refine ⟨?_, ?_, ?_⟩
  ·
   intro y0 y1 y2 y3 y4 y5 y6 y7 y8 y9 y10 y11 y12 y13 y14
   unfold serinetteref03_Within.j0
   repeat' first
   | (with_reducible exact ih0 _ _ _ _ _ _ _ _ _ _ _ _ _ _ _)
   | (with_reducible exact ih1 _ _ _ _ _ _ _ _ _ _ _ _ _ _ _)
   | (with_reducible exact ih2 _ _ _ _ _ _ _ _ _ _ _ _ _ _ _)
   | (with_reducible exact serinetteref01_Cmp.mono _ _ _ _ _)
   | (with_reducible exact serinetteref01_Is.mono _ _ _)
   | (with_reducible exact serinetteref03_Clean.mono _ _ _ _ _ _ _ _)
   | (with_reducible exact LeO.refl _)
   | (with_reducible exact LeO.none _)
   | (with_reducible refine LeO.ite ?_ ?_)
   | (with_reducible refine LeO.bind ?_ (fun _ => ?_))
   | exact ih0 _ _ _ _ _ _ _ _ _ _ _ _ _ _ _
   | exact ih1 _ _ _ _ _ _ _ _ _ _ _ _ _ _ _
   | exact ih2 _ _ _ _ _ _ _ _ _ _ _ _ _ _ _
   | exact serinetteref01_Cmp.mono _ _ _ _ _
   | exact serinetteref01_Is.mono _ _ _
   | exact serinetteref03_Clean.mono _ _ _ _ _ _ _ _
   | exact LeO.none _
   | refine LeO.ite ?_ ?_
   | refine LeO.bind ?_ (fun _ => ?_)
  ·
   intro y0 y1 y2 y3 y4 y5 y6 y7 y8 y9 y10 y11 y12 y13 y14
   unfold serinetteref03_Within.j1
   repeat' first
   | (with_reducible exact ih0 _ _ _ _ _ _ _ _ _ _ _ _ _ _ _)
   | (with_reducible exact ih1 _ _ _ _ _ _ _ _ _ _ _ _ _ _ _)
   | (with_reducible exact ih2 _ _ _ _ _ _ _ _ _ _ _ _ _ _ _)
   | (with_reducible exact serinetteref01_Cmp.mono _ _ _ _ _)
   | (with_reducible exact serinetteref01_Is.mono _ _ _)
   | (with_reducible exact serinetteref03_Clean.mono _ _ _ _ _ _ _ _)
   | (with_reducible exact LeO.refl _)
   | (with_reducible exact LeO.none _)
   | (with_reducible refine LeO.ite ?_ ?_)
   | (with_reducible refine LeO.bind ?_ (fun _ => ?_))
   | exact ih0 _ _ _ _ _ _ _ _ _ _ _ _ _ _ _
   | exact ih1 _ _ _ _ _ _ _ _ _ _ _ _ _ _ _
   | exact ih2 _ _ _ _ _ _ _ _ _ _ _ _ _ _ _
   | exact serinetteref01_Cmp.mono _ _ _ _ _
   | exact serinetteref01_Is.mono _ _ _
   | exact serinetteref03_Clean.mono _ _ _ _ _ _ _ _
   | exact LeO.none _
   | refine LeO.ite ?_ ?_
   | refine LeO.bind ?_ (fun _ => ?_)
  ·
   intro y0 y1 y2 y3 y4 y5 y6 y7 y8 y9 y10 y11 y12 y13 y14
   unfold serinetteref03_Within.j2
   repeat' first
   | (with_reducible exact ih0 _ _ _ _ _ _ _ _ _ _ _ _ _ _ _)
   | (with_reducible exact ih1 _ _ _ _ _ _ _ _ _ _ _ _ _ _ _)
   | (with_reducible exact ih2 _ _ _ _ _ _ _ _ _ _ _ _ _ _ _)
   | (with_reducible exact serinetteref01_Cmp.mono _ _ _ _ _)
   | (with_reducible exact serinetteref01_Is.mono _ _ _)
   | (with_reducible exact serinetteref03_Clean.mono _ _ _ _ _ _ _ _)
   | (with_reducible exact LeO.refl _)
   | (with_reducible exact LeO.none _)
   | (with_reducible refine LeO.ite ?_ ?_)
   | (with_reducible refine LeO.bind ?_ (fun _ => ?_))
   | exact ih0 _ _ _ _ _ _ _ _ _ _ _ _ _ _ _
   | exact ih1 _ _ _ _ _ _ _ _ _ _ _ _ _ _ _
   | exact ih2 _ _ _ _ _ _ _ _ _ _ _ _ _ _ _
   | exact serinetteref01_Cmp.mono _ _ _ _ _
   | exact serinetteref01_Is.mono _ _ _
   | exact serinetteref03_Clean.mono _ _ _ _ _ _ _ _
   | exact LeO.none _
   | refine LeO.ite ?_ ?_
   | refine LeO.bind ?_ (fun _ => ?_)
theorem serinetteref03_Within.mono : ∀ a0 a1 a2 a3 a4 a5 a6 a7 a8 a9 a10 a11 a12 a13 k, LeO (serinetteref03_Within.f k a0 a1 a2 a3 a4 a5 a6 a7 a8 a9 a10 a11 a12 a13) (serinetteref03_Within.f (k + 1) a0 a1 a2 a3 a4 a5 a6 a7 a8 a9 a10 a11 a12 a13) := by
 intro a0 a1 a2 a3 a4 a5 a6 a7 a8 a9 a10 a11 a12 a13 k
 obtain ⟨ih0, ih1, ih2⟩ := serinetteref03_Within.mono_l k
 unfold serinetteref03_Within.f
 repeat' first
   | (with_reducible exact ih0 _ _ _ _ _ _ _ _ _ _ _ _ _ _ _)
   | (with_reducible exact ih1 _ _ _ _ _ _ _ _ _ _ _ _ _ _ _)
   | (with_reducible exact ih2 _ _ _ _ _ _ _ _ _ _ _ _ _ _ _)
   | (with_reducible exact serinetteref01_Cmp.mono _ _ _ _ _)
   | (with_reducible exact serinetteref01_Is.mono _ _ _)
   | (with_reducible exact serinetteref03_Clean.mono _ _ _ _ _ _ _ _)
   | (with_reducible exact LeO.refl _)
   | (with_reducible exact LeO.none _)
   | (with_reducible refine LeO.ite ?_ ?_)
   | (with_reducible refine LeO.bind ?_ (fun _ => ?_))
   | exact ih0 _ _ _ _ _ _ _ _ _ _ _ _ _ _ _
   | exact ih1 _ _ _ _ _ _ _ _ _ _ _ _ _ _ _
   | exact ih2 _ _ _ _ _ _ _ _ _ _ _ _ _ _ _
   | exact serinetteref01_Cmp.mono _ _ _ _ _
   | exact serinetteref01_Is.mono _ _ _
   | exact serinetteref03_Clean.mono _ _ _ _ _ _ _ _
   | exact LeO.none _
   | refine LeO.ite ?_ ?_
   | refine LeO.bind ?_ (fun _ => ?_)
set_option maxHeartbeats 8000000 in
set_option maxRecDepth 100000 in
theorem serinetteref03_Within.calls (k : Nat) (a0_0 : Int) (a0_1 : Int) (a0_2 : Int) (a0_3 : Int) (a0_4 : Int) (a0_5 : Bool) (a0_6 : Bool) (a1_0 : Int) (a1_1 : Int) (a1_2 : Int) (a1_3 : Int) (a1_4 : Int) (a1_5 : Bool) (a1_6 : Bool) (r : Bool) (w : World) (h : serinetteref03_Within.f k a0_0 a0_1 a0_2 a0_3 a0_4 a0_5 a0_6 a1_0 a1_1 a1_2 a1_3 a1_4 a1_5 a1_6 = some r) :
  Calls Tryz.prog 9 #[.agg #[.int .i64 a0_0, .int .i64 a0_1, .int .i64 a0_2, .int .i64 a0_3, .int .i64 a0_4, .bool a0_5, .bool a0_6], .agg #[.int .i64 a1_0, .int .i64 a1_1, .int .i64 a1_2, .int .i64 a1_3, .int .i64 a1_4, .bool a1_5, .bool a1_6]] w fun e w' => e = .returned (.bool r) ∧ Below w.heap.size w w' := by
 have hu25 := Tryz.underlying25; have hu23 := Tryz.underlying23; have HB := Aside0.mk (Below.refl w.heap.size w); have H : ((serinetteref03_Clean.f k a0_0 a0_1 a0_2 a0_3 a0_4 a0_5 a0_6).bind fun bt219 => ((serinetteref03_Clean.f k a1_0 a1_1 a1_2 a1_3 a1_4 a1_5 a1_6).bind fun bt226 => (if bt219.2.2.2.2.2.1 = true then (serinetteref03_Within.j0 k (!bt226.2.2.2.2.2.1) bt219.1 bt219.2.1 bt219.2.2.1 bt219.2.2.2.1 bt219.2.2.2.2.1 bt219.2.2.2.2.2.1 bt219.2.2.2.2.2.2 bt226.1 bt226.2.1 bt226.2.2.1 bt226.2.2.2.1 bt226.2.2.2.2.1 bt226.2.2.2.2.2.1 bt226.2.2.2.2.2.2) else (serinetteref03_Within.j0 k false bt219.1 bt219.2.1 bt219.2.2.1 bt219.2.2.2.1 bt219.2.2.2.2.1 bt219.2.2.2.2.2.1 bt219.2.2.2.2.2.2 bt226.1 bt226.2.1 bt226.2.2.1 bt226.2.2.2.1 bt226.2.2.2.2.1 bt226.2.2.2.2.2.1 bt226.2.2.2.2.2.2)))) = some r := h; clear h; replace H := Option.bind_eq_some_iff.mp H; obtain ⟨⟨t219, t220, t221, t222, t223, t224, t225⟩, A30, H⟩ := H; (try dsimp only at H); have A3 := Aside0.mk A30; clear A30; replace H := Option.bind_eq_some_iff.mp H; obtain ⟨⟨t226, t227, t228, t229, t230, t231, t232⟩, A40, H⟩ := H; (try dsimp only at H); have A4 := Aside0.mk A40; clear A40; have HC5 := Aside0.mk H; clear H; go_enter Tryz.func9, Tryz.ntmps9; go_upto_region 3 with (first | ((with_reducible refine gate_dst (N := 2) rfl ?_); refine bx_ 2 #[.int .i64 a0_0, .int .i64 a0_1, .int .i64 a0_2, .int .i64 a0_3, .int .i64 a0_4, .bool a0_5, .bool a0_6] 25 ?_; intro gb217 hg w6 BK217 hb; have GE217 := hz_ hg HB; replace HB := hs HB hb; clear hb hg) | ((with_reducible refine gate_dst (N := 3) rfl ?_); refine bx_ 3 #[.int .i64 a1_0, .int .i64 a1_1, .int .i64 a1_2, .int .i64 a1_3, .int .i64 a1_4, .bool a1_5, .bool a1_6] 25 ?_; intro gb218 hg w7 BK218 hb; have GE218 := ge_ w hg; have NB217_218 := nlk hg BK217; have NB218_217 := ngk hg BK217; replace BK217 := kb BK217 hb; replace HB := hb_ w hb; clear hb hg; have hnb8 := NB217_218.out; have hnc8 := NB218_217.out; obtain ⟨hcz9_0, hcz9_1, hcz9_2, hcz9_3, hcz9_4, hcz9_5, hcz9_6⟩ := bc7 BK217.out; obtain ⟨hfz9_0, hfz9_1, hfz9_2, hfz9_3, hfz9_4, hfz9_5, hfz9_6⟩ := bf7 BK217.out) | ((with_reducible refine gate_callee (f := 31) rfl ?_); refine goesL_ (some 6) rfl rfl Tryz.func31 (by kernel_rfl) rfl #[.agg #[.int .i64 a0_0, .int .i64 a0_1, .int .i64 a0_2, .int .i64 a0_3, .int .i64 a0_4, .bool a0_5, .bool a0_6]] rfl (by (try simp only [mp]); first | done | rfl | (simp only [ld]; rfl)) ?_; (with_reducible refine (serinetteref03_Clean.calls k a0_0 a0_1 a0_2 a0_3 a0_4 a0_5 a0_6 t219 t220 t221 t222 t223 t224 t225 _ A3.out).mono ?_); rintro e w10 ⟨rfl, hb⟩; refine ⟨_, rfl, ?_⟩; replace BK217 := kb BK217 hb; replace BK218 := kb BK218 hb; replace HB := hb_ w hb; obtain ⟨hcz11_0, hcz11_1, hcz11_2, hcz11_3, hcz11_4, hcz11_5, hcz11_6⟩ := bc7 BK217.out; obtain ⟨hfz11_0, hfz11_1, hfz11_2, hfz11_3, hfz11_4, hfz11_5, hfz11_6⟩ := bf7 BK217.out; obtain ⟨hcz12_0, hcz12_1, hcz12_2, hcz12_3, hcz12_4, hcz12_5, hcz12_6⟩ := bc7 BK218.out; obtain ⟨hfz12_0, hfz12_1, hfz12_2, hfz12_3, hfz12_4, hfz12_5, hfz12_6⟩ := bf7 BK218.out) | ((with_reducible refine gate_callee (f := 31) rfl ?_); refine goesL_ (some 8) rfl rfl Tryz.func31 (by kernel_rfl) rfl #[.agg #[.int .i64 a1_0, .int .i64 a1_1, .int .i64 a1_2, .int .i64 a1_3, .int .i64 a1_4, .bool a1_5, .bool a1_6]] rfl (by (try simp only [mp]); first | done | rfl | (simp only [ld]; rfl)) ?_; (with_reducible refine (serinetteref03_Clean.calls k a1_0 a1_1 a1_2 a1_3 a1_4 a1_5 a1_6 t226 t227 t228 t229 t230 t231 t232 _ A4.out).mono ?_); rintro e w13 ⟨rfl, hb⟩; refine ⟨_, rfl, ?_⟩; replace BK217 := Aside0.mk (blk_below (g := gb217) (o := .cells #[.int .i64 t219, .int .i64 t220, .int .i64 t221, .int .i64 t222, .int .i64 t223, .bool t224, .bool t225] 25 (0, 0)) (by exact rq BK217.out (by rfl)) hb); replace BK218 := Aside0.mk (blk_below (g := gb218) (o := .cells #[.int .i64 a1_0, .int .i64 a1_1, .int .i64 a1_2, .int .i64 a1_3, .int .i64 a1_4, .bool a1_5, .bool a1_6] 25 (0, 0)) (by (iterate 7 refine f1 NB218_217 ?_); refine bk ?_; exact BK218.out) hb); replace HB := hb_ w hb; obtain ⟨hcz14_0, hcz14_1, hcz14_2, hcz14_3, hcz14_4, hcz14_5, hcz14_6⟩ := bc7 BK218.out; obtain ⟨hfz14_0, hfz14_1, hfz14_2, hfz14_3, hfz14_4, hfz14_5, hfz14_6⟩ := bf7 BK218.out)); (try simp only [Act.put, List.setIfInBounds_toArray, List.set_cons_zero, List.set_cons_succ])
 go_cut [15] (fun v15 wc => ∃ (kq : Nat) (x15_4 : Bool), v15 = .bool x15_4 ∧ Aside0 (serinetteref03_Within.j0 kq x15_4 t219 t220 t221 t222 t223 t224 t225 t226 t227 t228 t229 t230 t231 t232 = some r) ∧ Aside0 (kq ≤ k) ∧ Aside0 (wc.heap[gb217]? = some (.cells #[.int .i64 t219, .int .i64 t220, .int .i64 t221, .int .i64 t222, .int .i64 t223, .bool t224, .bool t225] 25 (0, 0))) ∧ Aside0 (wc.heap[gb218]? = some (.cells #[.int .i64 t226, .int .i64 t227, .int .i64 t228, .int .i64 t229, .int .i64 t230, .bool t231, .bool t232] 25 (0, 0))) ∧ Aside0 (Below w.heap.size w wc))
 case first =>
  have H := HC5.out; clear HC5; by_cases c15 : t224 = true
  ·
   subst c15; rw [if_pos rfl] at H; have H' := Aside0.mk H; clear H; have hnb16 := NB217_218.out; have hnc16 := NB218_217.out; obtain ⟨hcz17_0, hcz17_1, hcz17_2, hcz17_3, hcz17_4, hcz17_5, hcz17_6⟩ := bc7 BK217.out; obtain ⟨hfz17_0, hfz17_1, hfz17_2, hfz17_3, hfz17_4, hfz17_5, hfz17_6⟩ := bf7 BK217.out; obtain ⟨hcz18_0, hcz18_1, hcz18_2, hcz18_3, hcz18_4, hcz18_5, hcz18_6⟩ := bc7 BK218.out; obtain ⟨hfz18_0, hfz18_1, hfz18_2, hfz18_3, hfz18_4, hfz18_5, hfz18_6⟩ := bf7 BK218.out; go_wp2; go_meet
   case rel => exact ⟨_, (!t231), (by first | rfl | (simp; done) | (simp [*]; done)), H', ⟨by first | omega | exact Nat.le_refl _⟩, ⟨by (iterate 7 refine f1 NB217_218 ?_); refine bk ?_; exact BK217.out⟩, ⟨by exact rq BK218.out (by rfl)⟩, ab2_⟩
  ·
   replace c15 := Bool.eq_false_iff.mpr c15; subst c15; rw [if_neg (show ¬ (false = true) by decide)] at H; have H' := Aside0.mk H; clear H; have hnb19 := NB217_218.out; have hnc19 := NB218_217.out; obtain ⟨hcz20_0, hcz20_1, hcz20_2, hcz20_3, hcz20_4, hcz20_5, hcz20_6⟩ := bc7 BK217.out; obtain ⟨hfz20_0, hfz20_1, hfz20_2, hfz20_3, hfz20_4, hfz20_5, hfz20_6⟩ := bf7 BK217.out; go_wp2; go_meet
   case rel => exact ⟨_, (false), (by first | rfl | (simp; done) | (simp [*]; done)), H', ⟨by first | omega | exact Nat.le_refl _⟩, ⟨by (iterate 7 refine f1 NB217_218 ?_); refine bk ?_; exact BK217.out⟩, ⟨by exact rq BK218.out (by rfl)⟩, ab2_⟩
 case rest =>
  clear HC5; (try clear hcz11_0 hcz11_1 hcz11_2 hcz11_3 hcz11_4 hcz11_5 hcz11_6); (try clear hcz12_0 hcz12_1 hcz12_2 hcz12_3 hcz12_4 hcz12_5 hcz12_6); (try clear hcz14_0 hcz14_1 hcz14_2 hcz14_3 hcz14_4 hcz14_5 hcz14_6); (try clear hcz9_0 hcz9_1 hcz9_2 hcz9_3 hcz9_4 hcz9_5 hcz9_6); (try clear hfz11_0 hfz11_1 hfz11_2 hfz11_3 hfz11_4 hfz11_5 hfz11_6); (try clear hfz12_0 hfz12_1 hfz12_2 hfz12_3 hfz12_4 hfz12_5 hfz12_6); (try clear hfz14_0 hfz14_1 hfz14_2 hfz14_3 hfz14_4 hfz14_5 hfz14_6); (try clear hfz9_0 hfz9_1 hfz9_2 hfz9_3 hfz9_4 hfz9_5 hfz9_6); obtain ⟨kq, x15_4, rfl, HA, HJ4, BK217, BK218, HB⟩ := hcut; cases kq with
  | zero => exact absurd HA.out (by simp [serinetteref03_Within.j0])
  | succ kj4 =>
   have H := HA.out; clear HA; simp only [serinetteref03_Within.j0] at H; by_cases c21 : x15_4 = true
   · subst c21; rw [if_pos rfl] at H; obtain rfl := Option.some.inj H; go_wp2; go_ret; exact en_
   ·
    replace c21 := Bool.eq_false_iff.mpr c21; subst c21; rw [if_neg (show ¬ (false = true) by decide)] at H; by_cases c22 : t225 = true
    · subst c22; rw [if_pos rfl] at H; obtain rfl := Option.some.inj H; have hnb23 := NB217_218.out; have hnc23 := NB218_217.out; obtain ⟨hcz24_0, hcz24_1, hcz24_2, hcz24_3, hcz24_4, hcz24_5, hcz24_6⟩ := bc7 BK217.out; obtain ⟨hfz24_0, hfz24_1, hfz24_2, hfz24_3, hfz24_4, hfz24_5, hfz24_6⟩ := bf7 BK217.out; go_wp2; go_ret; exact en_
    ·
     replace c22 := Bool.eq_false_iff.mpr c22; subst c22; rw [if_neg (show ¬ (false = true) by decide)] at H; by_cases c25 : t232 = true
     · subst c25; rw [if_pos rfl] at H; obtain rfl := Option.some.inj H; have hnb26 := NB217_218.out; have hnc26 := NB218_217.out; obtain ⟨hcz27_0, hcz27_1, hcz27_2, hcz27_3, hcz27_4, hcz27_5, hcz27_6⟩ := bc7 BK217.out; obtain ⟨hfz27_0, hfz27_1, hfz27_2, hfz27_3, hfz27_4, hfz27_5, hfz27_6⟩ := bf7 BK217.out; obtain ⟨hcz28_0, hcz28_1, hcz28_2, hcz28_3, hcz28_4, hcz28_5, hcz28_6⟩ := bc7 BK218.out; obtain ⟨hfz28_0, hfz28_1, hfz28_2, hfz28_3, hfz28_4, hfz28_5, hfz28_6⟩ := bf7 BK218.out; go_wp2; go_ret; exact en_
     ·
      replace c25 := Bool.eq_false_iff.mpr c25; subst c25; rw [if_neg (show ¬ (false = true) by decide)] at H; have HC29 := Aside0.mk H; clear H; have hnb30 := NB217_218.out; have hnc30 := NB218_217.out; obtain ⟨hcz31_0, hcz31_1, hcz31_2, hcz31_3, hcz31_4, hcz31_5, hcz31_6⟩ := bc7 BK217.out; obtain ⟨hfz31_0, hfz31_1, hfz31_2, hfz31_3, hfz31_4, hfz31_5, hfz31_6⟩ := bf7 BK217.out; obtain ⟨hcz32_0, hcz32_1, hcz32_2, hcz32_3, hcz32_4, hcz32_5, hcz32_6⟩ := bc7 BK218.out; obtain ⟨hfz32_0, hfz32_1, hfz32_2, hfz32_3, hfz32_4, hfz32_5, hfz32_6⟩ := bf7 BK218.out; go_upto_region 9 with (fail)
      go_cut [36] (fun v36 wc => ∃ (kq : Nat) (x36_28 : Bool), v36 = .bool x36_28 ∧ Aside0 (serinetteref03_Within.j1 kq x36_28 t219 t220 t221 t222 t223 t224 false t226 t227 t228 t229 t230 t231 false = some r) ∧ Aside0 (kq ≤ kj4) ∧ Aside0 (wc.heap[gb217]? = some (.cells #[.int .i64 t219, .int .i64 t220, .int .i64 t221, .int .i64 t222, .int .i64 t223, .bool t224, .bool false] 25 (0, 0))) ∧ Aside0 (wc.heap[gb218]? = some (.cells #[.int .i64 t226, .int .i64 t227, .int .i64 t228, .int .i64 t229, .int .i64 t230, .bool t231, .bool false] 25 (0, 0))) ∧ Aside0 (Below w.heap.size w wc))
      case first =>
       have H := HC29.out; clear HC29; replace H := Option.bind_eq_some_iff.mp H; obtain ⟨t233, A330, H⟩ := H; (try dsimp only at H); have A33 := Aside0.mk A330; clear A330; by_cases c34 : t233 = true
       ·
        subst c34; rw [if_pos rfl] at H; replace H := Option.bind_eq_some_iff.mp H; obtain ⟨t234, A350, H⟩ := H; (try dsimp only at H); have A35 := Aside0.mk A350; clear A350; by_cases c36 : t234 = true
        ·
         subst c36; rw [if_pos rfl] at H; replace H := Option.bind_eq_some_iff.mp H; obtain ⟨t235, A370, H⟩ := H; (try dsimp only at H); have A37 := Aside0.mk A370; clear A370; have H' := Aside0.mk H; clear H; have hnb38 := NB218_217.out; have hnc38 := NB217_218.out; obtain ⟨hcz39_0, hcz39_1, hcz39_2, hcz39_3, hcz39_4, hcz39_5, hcz39_6⟩ := bc7 BK218.out; obtain ⟨hfz39_0, hfz39_1, hfz39_2, hfz39_3, hfz39_4, hfz39_5, hfz39_6⟩ := bf7 BK218.out; go_wp2_with (first | ((with_reducible refine gate_callee (f := 28) rfl ?_); refine goesL_ (some 22) rfl rfl Tryz.func28 (by kernel_rfl) rfl #[.agg #[.int .i64 t226, .int .i64 t227]] rfl (by (try simp only [mp]); first | done | rfl | (simp only [ld]; rfl)) ?_; (with_reducible refine (serinetteref01_Is.calls kj4 t226 t227 true _ A33.out).mono ?_); rintro e w40 ⟨rfl, hb⟩; refine ⟨_, rfl, ?_⟩; replace BK217 := kb BK217 hb; replace BK218 := kb BK218 hb; replace HB := hb_ w hb; obtain ⟨hcz41_0, hcz41_1, hcz41_2, hcz41_3, hcz41_4, hcz41_5, hcz41_6⟩ := bc7 BK217.out; obtain ⟨hfz41_0, hfz41_1, hfz41_2, hfz41_3, hfz41_4, hfz41_5, hfz41_6⟩ := bf7 BK217.out) | (go_at_call 28; (with_reducible refine (serinetteref01_Is.calls kj4 t219 t220 true _ A35.out).mono ?_); rintro e w42 ⟨rfl, hb⟩; replace BK217 := kb BK217 hb; replace BK218 := kb BK218 hb; replace HB := hb_ w hb; obtain ⟨hcz43_0, hcz43_1, hcz43_2, hcz43_3, hcz43_4, hcz43_5, hcz43_6⟩ := bc7 BK217.out; obtain ⟨hfz43_0, hfz43_1, hfz43_2, hfz43_3, hfz43_4, hfz43_5, hfz43_6⟩ := bf7 BK217.out; obtain ⟨hcz44_0, hcz44_1, hcz44_2, hcz44_3, hcz44_4, hcz44_5, hcz44_6⟩ := bc7 BK218.out; obtain ⟨hfz44_0, hfz44_1, hfz44_2, hfz44_3, hfz44_4, hfz44_5, hfz44_6⟩ := bf7 BK218.out) | (go_at_call 29; (with_reducible refine (serinetteref01_Cmp.calls kj4 t219 t220 t226 t227 t235 _ A37.out).mono ?_); rintro e w45 ⟨rfl, hb⟩; replace BK217 := kb BK217 hb; replace BK218 := kb BK218 hb; replace HB := hb_ w hb; )); go_meet
         case rel => exact ⟨_, (decide (t235 < 0)), (by first | rfl | (simp; done) | (simp [*]; done)), H', ⟨by have := HJ4.out; first | omega | exact Nat.le_refl _⟩, ⟨bk BK217.out⟩, ⟨bk BK218.out⟩, ab2_⟩
        ·
         replace c36 := Bool.eq_false_iff.mpr c36; subst c36; rw [if_neg (show ¬ (false = true) by decide)] at H; have H' := Aside0.mk H; clear H; have hnb46 := NB218_217.out; have hnc46 := NB217_218.out; obtain ⟨hcz47_0, hcz47_1, hcz47_2, hcz47_3, hcz47_4, hcz47_5, hcz47_6⟩ := bc7 BK218.out; obtain ⟨hfz47_0, hfz47_1, hfz47_2, hfz47_3, hfz47_4, hfz47_5, hfz47_6⟩ := bf7 BK218.out; go_wp2_with (first | ((with_reducible refine gate_callee (f := 28) rfl ?_); refine goesL_ (some 22) rfl rfl Tryz.func28 (by kernel_rfl) rfl #[.agg #[.int .i64 t226, .int .i64 t227]] rfl (by (try simp only [mp]); first | done | rfl | (simp only [ld]; rfl)) ?_; (with_reducible refine (serinetteref01_Is.calls kj4 t226 t227 true _ A33.out).mono ?_); rintro e w48 ⟨rfl, hb⟩; refine ⟨_, rfl, ?_⟩; replace BK217 := kb BK217 hb; replace BK218 := kb BK218 hb; replace HB := hb_ w hb; obtain ⟨hcz49_0, hcz49_1, hcz49_2, hcz49_3, hcz49_4, hcz49_5, hcz49_6⟩ := bc7 BK217.out; obtain ⟨hfz49_0, hfz49_1, hfz49_2, hfz49_3, hfz49_4, hfz49_5, hfz49_6⟩ := bf7 BK217.out) | (go_at_call 28; (with_reducible refine (serinetteref01_Is.calls kj4 t219 t220 false _ A35.out).mono ?_); rintro e w50 ⟨rfl, hb⟩; replace BK217 := kb BK217 hb; replace BK218 := kb BK218 hb; replace HB := hb_ w hb; )); go_meet
         case rel => exact ⟨_, (true), (by first | rfl | (simp; done) | (simp [*]; done)), H', ⟨by have := HJ4.out; first | omega | exact Nat.le_refl _⟩, ⟨bk BK217.out⟩, ⟨bk BK218.out⟩, ab2_⟩
       ·
        replace c34 := Bool.eq_false_iff.mpr c34; subst c34; rw [if_neg (show ¬ (false = true) by decide)] at H; have H' := Aside0.mk H; clear H; have hnb51 := NB218_217.out; have hnc51 := NB217_218.out; obtain ⟨hcz52_0, hcz52_1, hcz52_2, hcz52_3, hcz52_4, hcz52_5, hcz52_6⟩ := bc7 BK218.out; obtain ⟨hfz52_0, hfz52_1, hfz52_2, hfz52_3, hfz52_4, hfz52_5, hfz52_6⟩ := bf7 BK218.out; go_wp2_with (first | ((with_reducible refine gate_callee (f := 28) rfl ?_); refine goesL_ (some 22) rfl rfl Tryz.func28 (by kernel_rfl) rfl #[.agg #[.int .i64 t226, .int .i64 t227]] rfl (by (try simp only [mp]); first | done | rfl | (simp only [ld]; rfl)) ?_; (with_reducible refine (serinetteref01_Is.calls kj4 t226 t227 false _ A33.out).mono ?_); rintro e w53 ⟨rfl, hb⟩; refine ⟨_, rfl, ?_⟩; replace BK217 := kb BK217 hb; replace BK218 := kb BK218 hb; replace HB := hb_ w hb; )); go_meet
        case rel => exact ⟨_, (false), (by first | rfl | (simp; done) | (simp [*]; done)), H', ⟨by have := HJ4.out; first | omega | exact Nat.le_refl _⟩, ⟨bk BK217.out⟩, ⟨bk BK218.out⟩, ab2_⟩
      case rest =>
       clear HC29; (try clear c21); (try clear c22); (try clear c25); (try clear hcz31_0 hcz31_1 hcz31_2 hcz31_3 hcz31_4 hcz31_5 hcz31_6); (try clear hcz32_0 hcz32_1 hcz32_2 hcz32_3 hcz32_4 hcz32_5 hcz32_6); (try clear hfz31_0 hfz31_1 hfz31_2 hfz31_3 hfz31_4 hfz31_5 hfz31_6); (try clear hfz32_0 hfz32_1 hfz32_2 hfz32_3 hfz32_4 hfz32_5 hfz32_6); obtain ⟨kq, x36_28, rfl, HA, HJ28, BK217, BK218, HB⟩ := hcut; cases kq with
       | zero => exact absurd HA.out (by simp [serinetteref03_Within.j1])
       | succ kj28 =>
        have H := HA.out; clear HA; simp only [serinetteref03_Within.j1] at H; by_cases c54 : x36_28 = true
        · subst c54; rw [if_pos rfl] at H; obtain rfl := Option.some.inj H; go_wp2; go_ret; exact en_
        ·
         replace c54 := Bool.eq_false_iff.mpr c54; subst c54; rw [if_neg (show ¬ (false = true) by decide)] at H; have HC55 := Aside0.mk H; clear H; go_upto_region 11 with (fail)
         go_cut [53] (fun v53 wc => ∃ (kq : Nat) (x53_54 : Bool), v53 = .bool x53_54 ∧ Aside0 (serinetteref03_Within.j2 kq x53_54 t219 t220 t221 t222 t223 t224 false t226 t227 t228 t229 t230 t231 false = some r) ∧ Aside0 (kq ≤ kj28) ∧ Aside0 (wc.heap[gb217]? = some (.cells #[.int .i64 t219, .int .i64 t220, .int .i64 t221, .int .i64 t222, .int .i64 t223, .bool t224, .bool false] 25 (0, 0))) ∧ Aside0 (wc.heap[gb218]? = some (.cells #[.int .i64 t226, .int .i64 t227, .int .i64 t228, .int .i64 t229, .int .i64 t230, .bool t231, .bool false] 25 (0, 0))) ∧ Aside0 (Below w.heap.size w wc))
         case first =>
          have H := HC55.out; clear HC55; replace H := Option.bind_eq_some_iff.mp H; obtain ⟨t236, A560, H⟩ := H; (try dsimp only at H); have A56 := Aside0.mk A560; clear A560; by_cases c57 : t236 = true
          ·
           subst c57; rw [if_pos rfl] at H; replace H := Option.bind_eq_some_iff.mp H; obtain ⟨t237, A580, H⟩ := H; (try dsimp only at H); have A58 := Aside0.mk A580; clear A580; by_cases c59 : t237 = true
           ·
            subst c59; rw [if_pos rfl] at H; replace H := Option.bind_eq_some_iff.mp H; obtain ⟨t238, A600, H⟩ := H; (try dsimp only at H); have A60 := Aside0.mk A600; clear A600; have H' := Aside0.mk H; clear H; have hnb61 := NB218_217.out; have hnc61 := NB217_218.out; obtain ⟨hcz62_0, hcz62_1, hcz62_2, hcz62_3, hcz62_4, hcz62_5, hcz62_6⟩ := bc7 BK218.out; obtain ⟨hfz62_0, hfz62_1, hfz62_2, hfz62_3, hfz62_4, hfz62_5, hfz62_6⟩ := bf7 BK218.out; go_wp2_with (first | ((with_reducible refine gate_callee (f := 28) rfl ?_); refine goesL_ (some 39) rfl rfl Tryz.func28 (by kernel_rfl) rfl #[.agg #[.int .i64 t228, .int .i64 t229]] rfl (by (try simp only [mp]); first | done | rfl | (simp only [ld]; rfl)) ?_; (with_reducible refine (serinetteref01_Is.calls kj28 t228 t229 true _ A56.out).mono ?_); rintro e w63 ⟨rfl, hb⟩; refine ⟨_, rfl, ?_⟩; replace BK217 := kb BK217 hb; replace BK218 := kb BK218 hb; replace HB := hb_ w hb; obtain ⟨hcz64_0, hcz64_1, hcz64_2, hcz64_3, hcz64_4, hcz64_5, hcz64_6⟩ := bc7 BK217.out; obtain ⟨hfz64_0, hfz64_1, hfz64_2, hfz64_3, hfz64_4, hfz64_5, hfz64_6⟩ := bf7 BK217.out) | (go_at_call 28; (with_reducible refine (serinetteref01_Is.calls kj28 t221 t222 true _ A58.out).mono ?_); rintro e w65 ⟨rfl, hb⟩; replace BK217 := kb BK217 hb; replace BK218 := kb BK218 hb; replace HB := hb_ w hb; obtain ⟨hcz66_0, hcz66_1, hcz66_2, hcz66_3, hcz66_4, hcz66_5, hcz66_6⟩ := bc7 BK217.out; obtain ⟨hfz66_0, hfz66_1, hfz66_2, hfz66_3, hfz66_4, hfz66_5, hfz66_6⟩ := bf7 BK217.out; obtain ⟨hcz67_0, hcz67_1, hcz67_2, hcz67_3, hcz67_4, hcz67_5, hcz67_6⟩ := bc7 BK218.out; obtain ⟨hfz67_0, hfz67_1, hfz67_2, hfz67_3, hfz67_4, hfz67_5, hfz67_6⟩ := bf7 BK218.out) | (go_at_call 29; (with_reducible refine (serinetteref01_Cmp.calls kj28 t221 t222 t228 t229 t238 _ A60.out).mono ?_); rintro e w68 ⟨rfl, hb⟩; replace BK217 := kb BK217 hb; replace BK218 := kb BK218 hb; replace HB := hb_ w hb; )); go_meet
            case rel => exact ⟨_, (decide (t238 > 0)), (by first | rfl | (simp; done) | (simp [*]; done)), H', ⟨by have := HJ4.out; have := HJ28.out; first | omega | exact Nat.le_refl _⟩, ⟨bk BK217.out⟩, ⟨bk BK218.out⟩, ab2_⟩
           ·
            replace c59 := Bool.eq_false_iff.mpr c59; subst c59; rw [if_neg (show ¬ (false = true) by decide)] at H; have H' := Aside0.mk H; clear H; have hnb69 := NB218_217.out; have hnc69 := NB217_218.out; obtain ⟨hcz70_0, hcz70_1, hcz70_2, hcz70_3, hcz70_4, hcz70_5, hcz70_6⟩ := bc7 BK218.out; obtain ⟨hfz70_0, hfz70_1, hfz70_2, hfz70_3, hfz70_4, hfz70_5, hfz70_6⟩ := bf7 BK218.out; go_wp2_with (first | ((with_reducible refine gate_callee (f := 28) rfl ?_); refine goesL_ (some 39) rfl rfl Tryz.func28 (by kernel_rfl) rfl #[.agg #[.int .i64 t228, .int .i64 t229]] rfl (by (try simp only [mp]); first | done | rfl | (simp only [ld]; rfl)) ?_; (with_reducible refine (serinetteref01_Is.calls kj28 t228 t229 true _ A56.out).mono ?_); rintro e w71 ⟨rfl, hb⟩; refine ⟨_, rfl, ?_⟩; replace BK217 := kb BK217 hb; replace BK218 := kb BK218 hb; replace HB := hb_ w hb; obtain ⟨hcz72_0, hcz72_1, hcz72_2, hcz72_3, hcz72_4, hcz72_5, hcz72_6⟩ := bc7 BK217.out; obtain ⟨hfz72_0, hfz72_1, hfz72_2, hfz72_3, hfz72_4, hfz72_5, hfz72_6⟩ := bf7 BK217.out) | (go_at_call 28; (with_reducible refine (serinetteref01_Is.calls kj28 t221 t222 false _ A58.out).mono ?_); rintro e w73 ⟨rfl, hb⟩; replace BK217 := kb BK217 hb; replace BK218 := kb BK218 hb; replace HB := hb_ w hb; )); go_meet
            case rel => exact ⟨_, (true), (by first | rfl | (simp; done) | (simp [*]; done)), H', ⟨by have := HJ4.out; have := HJ28.out; first | omega | exact Nat.le_refl _⟩, ⟨bk BK217.out⟩, ⟨bk BK218.out⟩, ab2_⟩
          ·
           replace c57 := Bool.eq_false_iff.mpr c57; subst c57; rw [if_neg (show ¬ (false = true) by decide)] at H; have H' := Aside0.mk H; clear H; have hnb74 := NB218_217.out; have hnc74 := NB217_218.out; obtain ⟨hcz75_0, hcz75_1, hcz75_2, hcz75_3, hcz75_4, hcz75_5, hcz75_6⟩ := bc7 BK218.out; obtain ⟨hfz75_0, hfz75_1, hfz75_2, hfz75_3, hfz75_4, hfz75_5, hfz75_6⟩ := bf7 BK218.out; go_wp2_with (first | ((with_reducible refine gate_callee (f := 28) rfl ?_); refine goesL_ (some 39) rfl rfl Tryz.func28 (by kernel_rfl) rfl #[.agg #[.int .i64 t228, .int .i64 t229]] rfl (by (try simp only [mp]); first | done | rfl | (simp only [ld]; rfl)) ?_; (with_reducible refine (serinetteref01_Is.calls kj28 t228 t229 false _ A56.out).mono ?_); rintro e w76 ⟨rfl, hb⟩; refine ⟨_, rfl, ?_⟩; replace BK217 := kb BK217 hb; replace BK218 := kb BK218 hb; replace HB := hb_ w hb; )); go_meet
           case rel => exact ⟨_, (false), (by first | rfl | (simp; done) | (simp [*]; done)), H', ⟨by have := HJ4.out; have := HJ28.out; first | omega | exact Nat.le_refl _⟩, ⟨bk BK217.out⟩, ⟨bk BK218.out⟩, ab2_⟩
         case rest =>
          clear HC55; (try clear c54); obtain ⟨kq, x53_54, rfl, HA, HJ54, BK217, BK218, HB⟩ := hcut; cases kq with
          | zero => exact absurd HA.out (by simp [serinetteref03_Within.j2])
          | succ kj54 =>
           have H := HA.out; clear HA; simp only [serinetteref03_Within.j2] at H; by_cases c77 : x53_54 = true
           · subst c77; rw [if_pos rfl] at H; obtain rfl := Option.some.inj H; go_wp2; go_ret; exact en_
           ·
            replace c77 := Bool.eq_false_iff.mpr c77; subst c77; rw [if_neg (show ¬ (false = true) by decide)] at H; by_cases c78 : t230 = 0
            · rw [if_pos c78] at H; have c78b0 : (t230 == 0) = true := beq_iff_eq.mpr c78; have c78b1 : (t230 != 0) = false := bne_eq_false_iff_eq.mpr c78; clear c78; obtain rfl := Option.some.inj H; have hnb79 := NB218_217.out; have hnc79 := NB217_218.out; obtain ⟨hcz80_0, hcz80_1, hcz80_2, hcz80_3, hcz80_4, hcz80_5, hcz80_6⟩ := bc7 BK218.out; obtain ⟨hfz80_0, hfz80_1, hfz80_2, hfz80_3, hfz80_4, hfz80_5, hfz80_6⟩ := bf7 BK218.out; go_wp2; go_ret; exact en_
            ·
             rw [if_neg c78] at H; have c78b0 : (t230 == 0) = false := beq_eq_false_iff_ne.mpr c78; have c78b1 : (t230 != 0) = true := bne_iff_ne.mpr c78; by_cases c81 : t223 = 0
             · rw [if_pos c81] at H; have c81b0 : (t223 == 0) = true := beq_iff_eq.mpr c81; have c81b1 : (t223 != 0) = false := bne_eq_false_iff_eq.mpr c81; clear c81; obtain rfl := Option.some.inj H; have hnb82 := NB218_217.out; have hnc82 := NB217_218.out; obtain ⟨hcz83_0, hcz83_1, hcz83_2, hcz83_3, hcz83_4, hcz83_5, hcz83_6⟩ := bc7 BK218.out; obtain ⟨hfz83_0, hfz83_1, hfz83_2, hfz83_3, hfz83_4, hfz83_5, hfz83_6⟩ := bf7 BK218.out; obtain ⟨hcz84_0, hcz84_1, hcz84_2, hcz84_3, hcz84_4, hcz84_5, hcz84_6⟩ := bc7 BK217.out; obtain ⟨hfz84_0, hfz84_1, hfz84_2, hfz84_3, hfz84_4, hfz84_5, hfz84_6⟩ := bf7 BK217.out; go_wp2; go_ret; exact en_
             · rw [if_neg c81] at H; have c81b0 : (t223 == 0) = false := beq_eq_false_iff_ne.mpr c81; have c81b1 : (t223 != 0) = true := bne_iff_ne.mpr c81; obtain rfl := Option.some.inj H; have hnb85 := NB218_217.out; have hnc85 := NB217_218.out; obtain ⟨hcz86_0, hcz86_1, hcz86_2, hcz86_3, hcz86_4, hcz86_5, hcz86_6⟩ := bc7 BK218.out; obtain ⟨hfz86_0, hfz86_1, hfz86_2, hfz86_3, hfz86_4, hfz86_5, hfz86_6⟩ := bf7 BK218.out; obtain ⟨hcz87_0, hcz87_1, hcz87_2, hcz87_3, hcz87_4, hcz87_5, hcz87_6⟩ := bc7 BK217.out; obtain ⟨hfz87_0, hfz87_1, hfz87_2, hfz87_3, hfz87_4, hfz87_5, hfz87_6⟩ := bf7 BK217.out; go_wp2; go_ret; exact en_
def span_divisor.l0 : Nat → Int → Int → Option (Int)
 | 0, _, _ => none
 | k + 1, x0, x1 => if x1 = 0 then (some x0) else (span_divisor.l0 k x1 (Int.tmod x0 x1))
def span_divisor.f (k : Nat) (a0 : Int) (a1 : Int) : Option (Int) := span_divisor.l0 k a0 a1
theorem span_divisor.mono_l : ∀ k, (∀ y0 y1, LeO (span_divisor.l0 k y0 y1) (span_divisor.l0 (k + 1) y0 y1))
 | 0 => fun _ _ r h => by simp [span_divisor.l0] at h
 | k + 1 => by
  have ih0 := span_divisor.mono_l k
  ·
   intro y0 y1
   unfold span_divisor.l0
   repeat' first
   | (with_reducible exact ih0 _ _)
   | (with_reducible exact LeO.refl _)
   | (with_reducible exact LeO.none _)
   | (with_reducible refine LeO.ite ?_ ?_)
   | (with_reducible refine LeO.bind ?_ (fun _ => ?_))
   | exact ih0 _ _
   | exact LeO.none _
   | refine LeO.ite ?_ ?_
   | refine LeO.bind ?_ (fun _ => ?_)
theorem span_divisor.mono : ∀ a0 a1 k, LeO (span_divisor.f k a0 a1) (span_divisor.f (k + 1) a0 a1) := by
 intro a0 a1 k
 have ih0 := span_divisor.mono_l k
 unfold span_divisor.f
 repeat' first
   | (with_reducible exact ih0 _ _)
   | (with_reducible exact LeO.refl _)
   | (with_reducible exact LeO.none _)
   | (with_reducible refine LeO.ite ?_ ?_)
   | (with_reducible refine LeO.bind ?_ (fun _ => ?_))
   | exact ih0 _ _
   | exact LeO.none _
   | refine LeO.ite ?_ ?_
   | refine LeO.bind ?_ (fun _ => ?_)
set_option maxHeartbeats 8000000 in
set_option maxRecDepth 100000 in
theorem span_divisor.calls (k : Nat) (a0 : Int) (a1 : Int) (r : Int) (w : World) (h : span_divisor.f k a0 a1 = some r) :
  Calls Tryz.prog 42 #[.int .i64 a0, .int .i64 a1] w fun e w' => e = .returned (.int .i64 r) ∧ Drawn0 w w' := by
 have H : (span_divisor.l0 k a0 a1) = some r := h; clear h; have H' := Aside0.mk H; clear H; go_enter Tryz.func42, Tryz.ntmps42; go_wp2; repeat (go_quiet (fail); try go_wp2)
 go_loopg [0, 1] k (fun kq v0 v1 w' => ∃ (x0_1 : Int) (x1_1 : Int), v0 = .int .i64 x0_1 ∧ v1 = .int .i64 x1_1 ∧ Aside0 (span_divisor.l0 kq x0_1 x1_1 = some r) ∧ Aside0 (kq ≤ k) ∧ Drawn0 w w')
 case atStart => exact ⟨(a0), (a1), (by first | rfl | (simp; done) | (simp [*]; done)), (by first | rfl | (simp; done) | (simp [*]; done)), H', ⟨Nat.le_refl _⟩, by repeat (first | exact Drawn0.refl _ | apply Drawn0.step)⟩
 case round =>
  clear H'; (try clear p2); obtain ⟨x0_1, x1_1, rfl, rfl, HA, HK1, ⟨m1, rfl⟩⟩ := hrel; cases gk with
  | zero => exact absurd HA.out (by simp [span_divisor.l0])
  | succ k1 =>
   have H := HA.out; clear HA; simp only [span_divisor.l0] at H; by_cases c3 : x1_1 = 0
   · rw [if_pos c3] at H; have c3b0 : (x1_1 == 0) = true := beq_iff_eq.mpr c3; have c3b1 : (x1_1 != 0) = false := bne_eq_false_iff_eq.mpr c3; clear c3; obtain rfl := Option.some.inj H; go_wp2; (repeat (go_quiet (fail); try go_wp2)); go_ret; exact ⟨by first | rfl | (simp; done) | (simp [*]; done), by repeat (first | exact Drawn0.refl _ | apply Drawn0.step)⟩
   ·
    rw [if_neg c3] at H; have c3b0 : (x1_1 == 0) = false := beq_eq_false_iff_ne.mpr c3; have c3b1 : (x1_1 != 0) = true := bne_iff_ne.mpr c3; have H' := Aside0.mk H; clear H; go_wp2; (repeat (go_quiet (fail); try go_wp2)); go_roundg k1
    case measure => have := HK1.out; omega
    case rel => exact ⟨(x1_1), (Int.tmod x0_1 x1_1), (by first | rfl | (simp; done) | (simp [*]; done)), (by first | rfl | (simp; done) | (simp [*]; done)), H', ⟨by have := HK1.out; omega⟩, by repeat (first | exact Drawn0.refl _ | apply Drawn0.step)⟩
def span_common.j0 : Nat → Int → Int → Bool → Option (Int)
 | 0, _, _, _ => none
 | k + 1, x0, x1, x11 => if x11 = true then (some 0) else ((span_divisor.f k x0 x1).bind fun t295 => (if t295 = 0 then (none) else (if (wrap64 ((wrap64 (Int.tdiv x0 t295)) * x1)) ≤ 1073741824 then (some (wrap64 ((wrap64 (Int.tdiv x0 t295)) * x1))) else (some 0))))
def span_common.f (k : Nat) (a0 : Int) (a1 : Int) : Option (Int) := if a0 = 0 then (span_common.j0 k a0 a1 true) else (span_common.j0 k a0 a1 (a1 == 0))
theorem span_common.mono_l : ∀ k, (∀ y0 y1 y2, LeO (span_common.j0 k y0 y1 y2) (span_common.j0 (k + 1) y0 y1 y2))
 | 0 => fun _ _ _ r h => by simp [span_common.j0] at h
 | k + 1 => by
  have ih0 := span_common.mono_l k
  ·
   intro y0 y1 y2
   unfold span_common.j0
   repeat' first
   | (with_reducible exact ih0 _ _ _)
   | (with_reducible exact span_divisor.mono _ _ _)
   | (with_reducible exact LeO.refl _)
   | (with_reducible exact LeO.none _)
   | (with_reducible refine LeO.ite ?_ ?_)
   | (with_reducible refine LeO.bind ?_ (fun _ => ?_))
   | exact ih0 _ _ _
   | exact span_divisor.mono _ _ _
   | exact LeO.none _
   | refine LeO.ite ?_ ?_
   | refine LeO.bind ?_ (fun _ => ?_)
theorem span_common.mono : ∀ a0 a1 k, LeO (span_common.f k a0 a1) (span_common.f (k + 1) a0 a1) := by
 intro a0 a1 k
 have ih0 := span_common.mono_l k
 unfold span_common.f
 repeat' first
   | (with_reducible exact ih0 _ _ _)
   | (with_reducible exact span_divisor.mono _ _ _)
   | (with_reducible exact LeO.refl _)
   | (with_reducible exact LeO.none _)
   | (with_reducible refine LeO.ite ?_ ?_)
   | (with_reducible refine LeO.bind ?_ (fun _ => ?_))
   | exact ih0 _ _ _
   | exact span_divisor.mono _ _ _
   | exact LeO.none _
   | refine LeO.ite ?_ ?_
   | refine LeO.bind ?_ (fun _ => ?_)
set_option maxHeartbeats 8000000 in
set_option maxRecDepth 100000 in
theorem span_common.calls (k : Nat) (a0 : Int) (a1 : Int) (r : Int) (w : World) (h : span_common.f k a0 a1 = some r) :
  Calls Tryz.prog 35 #[.int .i64 a0, .int .i64 a1] w fun e w' => e = .returned (.int .i64 r) ∧ Drawn0 w w' := by
 have H : (if a0 = 0 then (span_common.j0 k a0 a1 true) else (span_common.j0 k a0 a1 (a1 == 0))) = some r := h; clear h; have HC3 := Aside0.mk H; clear H; go_enter Tryz.func35, Tryz.ntmps35; go_upto_region 1 with (fail)
 go_cut [11] (fun v11 wc => ∃ (kq : Nat) (x11_2 : Bool), v11 = .bool x11_2 ∧ Aside0 (span_common.j0 kq a0 a1 x11_2 = some r) ∧ Aside0 (kq ≤ k) ∧ Drawn0 w wc)
 case first =>
  have H := HC3.out; clear HC3; by_cases c4 : a0 = 0
  ·
   rw [if_pos c4] at H; have c4b0 : (a0 == 0) = true := beq_iff_eq.mpr c4; have c4b1 : (a0 != 0) = false := bne_eq_false_iff_eq.mpr c4; clear c4; (first | rw [c4b0] | (simp only [i64_w, i32_w]; rw [c4b0]) | skip); have H' := Aside0.mk H; clear H; go_wp2; go_meet
   case rel => exact ⟨_, (true), (by first | rfl | (simp; done) | (simp [*]; done)), H', ⟨by first | omega | exact Nat.le_refl _⟩, by repeat (first | exact Drawn0.refl _ | apply Drawn0.step)⟩
  ·
   rw [if_neg c4] at H; have c4b0 : (a0 == 0) = false := beq_eq_false_iff_ne.mpr c4; have c4b1 : (a0 != 0) = true := bne_iff_ne.mpr c4; (first | rw [c4b0] | (simp only [i64_w, i32_w]; rw [c4b0]) | skip); have H' := Aside0.mk H; clear H; go_wp2; go_meet
   case rel => exact ⟨_, ((a1 == 0)), (by first | rfl | (simp; done) | (simp [*]; done)), H', ⟨by first | omega | exact Nat.le_refl _⟩, by repeat (first | exact Drawn0.refl _ | apply Drawn0.step)⟩
 case rest =>
  clear HC3; obtain ⟨kq, x11_2, rfl, HA, HJ2, ⟨mc2, rfl⟩⟩ := hcut; cases kq with
  | zero => exact absurd HA.out (by simp [span_common.j0])
  | succ kj2 =>
   have H := HA.out; clear HA; simp only [span_common.j0] at H; by_cases c5 : x11_2 = true
   · subst c5; rw [if_pos rfl] at H; obtain rfl := Option.some.inj H; go_wp2; go_ret; exact ⟨by first | rfl | (simp; done) | (simp [*]; done), by repeat (first | exact Drawn0.refl _ | apply Drawn0.step)⟩
   ·
    replace c5 := Bool.eq_false_iff.mpr c5; subst c5; rw [if_neg (show ¬ (false = true) by decide)] at H; replace H := Option.bind_eq_some_iff.mp H; obtain ⟨t295, A60, H⟩ := H; (try dsimp only at H); have A6 := Aside0.mk A60; clear A60; by_cases c7 : t295 = 0
    · rw [if_pos c7] at H; exact absurd H (by simp)
    ·
     rw [if_neg c7] at H; have c7b0 : (t295 == 0) = false := beq_eq_false_iff_ne.mpr c7; have c7b1 : (t295 != 0) = true := bne_iff_ne.mpr c7; by_cases c8 : (wrap64 ((wrap64 (Int.tdiv a0 t295)) * a1)) ≤ 1073741824
     · rw [if_pos c8] at H; have c8b0 : decide ((wrap64 ((wrap64 (Int.tdiv a0 t295)) * a1)) ≤ 1073741824) = true := decide_eq_true c8; clear c8; obtain rfl := Option.some.inj H; go_wp2_with (first | ((with_reducible refine gate_callee (f := 42) rfl ?_); refine goesL_ (some 15) rfl rfl Tryz.func42 (by kernel_rfl) rfl #[.int .i64 a0, .int .i64 a1] rfl (by (try simp only [mp]); first | done | rfl | (simp only [ld]; rfl)) ?_; (with_reducible refine (span_divisor.calls kj2 a0 a1 t295 _ A6.out).mono ?_); rintro e w' ⟨rfl, ⟨nd, rfl⟩⟩; refine ⟨_, rfl, ?_⟩)); go_ret; exact ⟨by first | rfl | (simp; done) | (simp [*]; done), by repeat (first | exact Drawn0.refl _ | apply Drawn0.step)⟩
     · rw [if_neg c8] at H; have c8b0 : decide ((wrap64 ((wrap64 (Int.tdiv a0 t295)) * a1)) ≤ 1073741824) = false := decide_eq_false c8; clear c8; obtain rfl := Option.some.inj H; go_wp2_with (first | ((with_reducible refine gate_callee (f := 42) rfl ?_); refine goesL_ (some 15) rfl rfl Tryz.func42 (by kernel_rfl) rfl #[.int .i64 a0, .int .i64 a1] rfl (by (try simp only [mp]); first | done | rfl | (simp only [ld]; rfl)) ?_; (with_reducible refine (span_divisor.calls kj2 a0 a1 t295 _ A6.out).mono ?_); rintro e w' ⟨rfl, ⟨nd, rfl⟩⟩; refine ⟨_, rfl, ?_⟩)); go_ret; exact ⟨by first | rfl | (simp; done) | (simp [*]; done), by repeat (first | exact Drawn0.refl _ | apply Drawn0.step)⟩
def ratio_Min.j0 : Nat → Bool → Int → Int → Int → Int → Option (Int × Int)
 | 0, _, _, _, _, _ => none
 | k + 1, x12, x297000, x297001, x298000, x298001 => if x12 = true then (some (0, 0)) else ((ratio_Cmp.f k x298000 x298001 x297000 x297001).bind fun t301 => (if t301 < 0 then (some (x298000, x298001)) else (some (x297000, x297001))))
def ratio_Min.f (k : Nat) (a0_0 : Int) (a0_1 : Int) (a1_0 : Int) (a1_1 : Int) : Option (Int × Int) := (ratio_Is.f k a0_0 a0_1).bind fun t299 => (if t299 = true then ((ratio_Is.f k a1_0 a1_1).bind fun t300 => (ratio_Min.j0 k (!t300) a0_0 a0_1 a1_0 a1_1)) else (ratio_Min.j0 k true a0_0 a0_1 a1_0 a1_1))
theorem ratio_Min.mono_l : ∀ k, (∀ y0 y1 y2 y3 y4, LeO (ratio_Min.j0 k y0 y1 y2 y3 y4) (ratio_Min.j0 (k + 1) y0 y1 y2 y3 y4))
 | 0 => fun _ _ _ _ _ r h => by simp [ratio_Min.j0] at h
 | k + 1 => by
  have ih0 := ratio_Min.mono_l k
  ·
   intro y0 y1 y2 y3 y4
   unfold ratio_Min.j0
   repeat' first
   | (with_reducible exact ih0 _ _ _ _ _)
   | (with_reducible exact ratio_Cmp.mono _ _ _ _ _)
   | (with_reducible exact ratio_Is.mono _ _ _)
   | (with_reducible exact LeO.refl _)
   | (with_reducible exact LeO.none _)
   | (with_reducible refine LeO.ite ?_ ?_)
   | (with_reducible refine LeO.bind ?_ (fun _ => ?_))
   | exact ih0 _ _ _ _ _
   | exact ratio_Cmp.mono _ _ _ _ _
   | exact ratio_Is.mono _ _ _
   | exact LeO.none _
   | refine LeO.ite ?_ ?_
   | refine LeO.bind ?_ (fun _ => ?_)
theorem ratio_Min.mono : ∀ a0 a1 a2 a3 k, LeO (ratio_Min.f k a0 a1 a2 a3) (ratio_Min.f (k + 1) a0 a1 a2 a3) := by
 intro a0 a1 a2 a3 k
 have ih0 := ratio_Min.mono_l k
 unfold ratio_Min.f
 repeat' first
   | (with_reducible exact ih0 _ _ _ _ _)
   | (with_reducible exact ratio_Cmp.mono _ _ _ _ _)
   | (with_reducible exact ratio_Is.mono _ _ _)
   | (with_reducible exact LeO.refl _)
   | (with_reducible exact LeO.none _)
   | (with_reducible refine LeO.ite ?_ ?_)
   | (with_reducible refine LeO.bind ?_ (fun _ => ?_))
   | exact ih0 _ _ _ _ _
   | exact ratio_Cmp.mono _ _ _ _ _
   | exact ratio_Is.mono _ _ _
   | exact LeO.none _
   | refine LeO.ite ?_ ?_
   | refine LeO.bind ?_ (fun _ => ?_)
set_option maxHeartbeats 8000000 in
set_option maxRecDepth 100000 in
theorem ratio_Min.calls (k : Nat) (a0_0 : Int) (a0_1 : Int) (a1_0 : Int) (a1_1 : Int) (r1 : Int) (r2 : Int) (w : World) (h : ratio_Min.f k a0_0 a0_1 a1_0 a1_1 = some (r1, r2)) :
  Calls Tryz.prog 36 #[.agg #[.int .i64 a0_0, .int .i64 a0_1], .agg #[.int .i64 a1_0, .int .i64 a1_1]] w fun e w' => e = .returned (.agg #[.int .i64 r1, .int .i64 r2]) ∧ Below w.heap.size w w' := by
 have hu23 := Tryz.underlying23; have HB := Aside0.mk (Below.refl w.heap.size w); have H : ((ratio_Is.f k a0_0 a0_1).bind fun t299 => (if t299 = true then ((ratio_Is.f k a1_0 a1_1).bind fun t300 => (ratio_Min.j0 k (!t300) a0_0 a0_1 a1_0 a1_1)) else (ratio_Min.j0 k true a0_0 a0_1 a1_0 a1_1))) = some (r1, r2) := h; clear h; have HC3 := Aside0.mk H; clear H; go_enter Tryz.func36, Tryz.ntmps36; go_upto_region 1 with (first | ((with_reducible refine gate_dst (N := 2) rfl ?_); refine bx_ 2 #[.int .i64 a0_0, .int .i64 a0_1] 23 ?_; intro gb296 hg w4 BK296 hb; have GE296 := hz_ hg HB; replace HB := hs HB hb; clear hb hg) | ((with_reducible refine gate_dst (N := 3) rfl ?_); refine bx_ 3 #[.int .i64 a1_0, .int .i64 a1_1] 23 ?_; intro gb297 hg w5 BK297 hb; have GE297 := ge_ w hg; have NB296_297 := nlk hg BK296; have NB297_296 := ngk hg BK296; replace BK296 := kb BK296 hb; replace HB := hb_ w hb; clear hb hg) | ((with_reducible refine gate_dst (N := 4) rfl ?_); refine bx_ 4 #[.int .i64 0, .int .i64 0] 23 ?_; intro gb298 hg w6 BK298 hb; have GE298 := ge_ w hg; have NB296_298 := nlk hg BK296; have NB298_296 := ngk hg BK296; have NB297_298 := nlk hg BK297; have NB298_297 := ngk hg BK297; replace BK296 := kb BK296 hb; replace BK297 := kb BK297 hb; replace HB := hb_ w hb; clear hb hg)); (try simp only [Act.put, List.setIfInBounds_toArray, List.set_cons_zero, List.set_cons_succ])
 go_cut [12] (fun v12 wc => ∃ (kq : Nat) (x12_2 : Bool), v12 = .bool x12_2 ∧ Aside0 (ratio_Min.j0 kq x12_2 a0_0 a0_1 a1_0 a1_1 = some (r1, r2)) ∧ Aside0 (kq ≤ k) ∧ Aside0 (wc.heap[gb296]? = some (.cells #[.int .i64 a0_0, .int .i64 a0_1] 23 (0, 0))) ∧ Aside0 (wc.heap[gb297]? = some (.cells #[.int .i64 a1_0, .int .i64 a1_1] 23 (0, 0))) ∧ Aside0 (wc.heap[gb298]? = some (.cells #[.int .i64 0, .int .i64 0] 23 (0, 0))) ∧ Aside0 (Below w.heap.size w wc))
 case first =>
  have H := HC3.out; clear HC3; replace H := Option.bind_eq_some_iff.mp H; obtain ⟨t299, A70, H⟩ := H; (try dsimp only at H); have A7 := Aside0.mk A70; clear A70; by_cases c8 : t299 = true
  ·
   subst c8; rw [if_pos rfl] at H; replace H := Option.bind_eq_some_iff.mp H; obtain ⟨t300, A90, H⟩ := H; (try dsimp only at H); have A9 := Aside0.mk A90; clear A90; have H' := Aside0.mk H; clear H; have hnb10 := NB296_297.out; have hnc10 := NB297_296.out; have hnb11 := NB296_298.out; have hnc11 := NB298_296.out; obtain ⟨hcz12_0, hcz12_1⟩ := bc2 BK296.out; obtain ⟨hfz12_0, hfz12_1⟩ := bf2 BK296.out; go_wp2_with (first | ((with_reducible refine gate_callee (f := 24) rfl ?_); refine goesL_ (some 6) rfl rfl Tryz.func24 (by kernel_rfl) rfl #[.agg #[.int .i64 a0_0, .int .i64 a0_1]] rfl (by (try simp only [mp]); first | done | rfl | (simp only [ld]; rfl)) ?_; (with_reducible refine (ratio_Is.calls k a0_0 a0_1 true _ A7.out).mono ?_); rintro e w13 ⟨rfl, hb⟩; refine ⟨_, rfl, ?_⟩; replace BK296 := kb BK296 hb; replace BK297 := kb BK297 hb; replace BK298 := kb BK298 hb; replace HB := hb_ w hb; have hnb14 := NB297_298.out; have hnc14 := NB298_297.out; obtain ⟨hcz15_0, hcz15_1⟩ := bc2 BK297.out; obtain ⟨hfz15_0, hfz15_1⟩ := bf2 BK297.out) | (go_at_call 24; (with_reducible refine (ratio_Is.calls k a1_0 a1_1 t300 _ A9.out).mono ?_); rintro e w16 ⟨rfl, hb⟩; replace BK296 := kb BK296 hb; replace BK297 := kb BK297 hb; replace BK298 := kb BK298 hb; replace HB := hb_ w hb; )); go_meet
   case rel => exact ⟨_, (!t300), (by first | rfl | (simp; done) | (simp [*]; done)), H', ⟨by first | omega | exact Nat.le_refl _⟩, ⟨bk BK296.out⟩, ⟨bk BK297.out⟩, ⟨bk BK298.out⟩, ab2_⟩
  ·
   replace c8 := Bool.eq_false_iff.mpr c8; subst c8; rw [if_neg (show ¬ (false = true) by decide)] at H; have H' := Aside0.mk H; clear H; have hnb17 := NB296_297.out; have hnc17 := NB297_296.out; have hnb18 := NB296_298.out; have hnc18 := NB298_296.out; obtain ⟨hcz19_0, hcz19_1⟩ := bc2 BK296.out; obtain ⟨hfz19_0, hfz19_1⟩ := bf2 BK296.out; go_wp2_with (first | ((with_reducible refine gate_callee (f := 24) rfl ?_); refine goesL_ (some 6) rfl rfl Tryz.func24 (by kernel_rfl) rfl #[.agg #[.int .i64 a0_0, .int .i64 a0_1]] rfl (by (try simp only [mp]); first | done | rfl | (simp only [ld]; rfl)) ?_; (with_reducible refine (ratio_Is.calls k a0_0 a0_1 false _ A7.out).mono ?_); rintro e w20 ⟨rfl, hb⟩; refine ⟨_, rfl, ?_⟩; replace BK296 := kb BK296 hb; replace BK297 := kb BK297 hb; replace BK298 := kb BK298 hb; replace HB := hb_ w hb; )); go_meet
   case rel => exact ⟨_, (true), (by first | rfl | (simp; done) | (simp [*]; done)), H', ⟨by first | omega | exact Nat.le_refl _⟩, ⟨bk BK296.out⟩, ⟨bk BK297.out⟩, ⟨bk BK298.out⟩, ab2_⟩
 case rest =>
  clear HC3; obtain ⟨kq, x12_2, rfl, HA, HJ2, BK296, BK297, BK298, HB⟩ := hcut; cases kq with
  | zero => exact absurd HA.out (by simp [ratio_Min.j0])
  | succ kj2 =>
   have H := HA.out; clear HA; simp only [ratio_Min.j0] at H; by_cases c21 : x12_2 = true
   · subst c21; rw [if_pos rfl] at H; simp only [Option.some.injEq, Prod.mk.injEq] at H; obtain ⟨rfl, rfl⟩ := H; have hnb22 := NB298_296.out; have hnc22 := NB296_298.out; have hnb23 := NB298_297.out; have hnc23 := NB297_298.out; obtain ⟨hcz24_0, hcz24_1⟩ := bc2 BK298.out; obtain ⟨hfz24_0, hfz24_1⟩ := bf2 BK298.out; go_wp2; refine bodyPost_ret (results_cell_row rfl _ _ gb298 23 #[.int .i64 0, .int .i64 0] (0, 0) _ rfl (by exact rq BK298.out (by rfl)) Tryz.underlying23 rfl (by kernel_rfl)) rfl ?_; exact en_
   ·
    replace c21 := Bool.eq_false_iff.mpr c21; subst c21; rw [if_neg (show ¬ (false = true) by decide)] at H; replace H := Option.bind_eq_some_iff.mp H; obtain ⟨t301, A250, H⟩ := H; (try dsimp only at H); have A25 := Aside0.mk A250; clear A250; by_cases c26 : t301 < 0
    · rw [if_pos c26] at H; have c26b0 : decide (t301 < 0) = true := decide_eq_true c26; clear c26; simp only [Option.some.injEq, Prod.mk.injEq] at H; obtain ⟨rfl, rfl⟩ := H; have hnb27 := NB297_296.out; have hnc27 := NB296_297.out; have hnb28 := NB297_298.out; have hnc28 := NB298_297.out; obtain ⟨hcz29_0, hcz29_1⟩ := bc2 BK297.out; obtain ⟨hfz29_0, hfz29_1⟩ := bf2 BK297.out; have hnb30 := NB296_298.out; have hnc30 := NB298_296.out; obtain ⟨hcz31_0, hcz31_1⟩ := bc2 BK296.out; obtain ⟨hfz31_0, hfz31_1⟩ := bf2 BK296.out; go_wp2_with (first | ((with_reducible refine gate_callee (f := 25) rfl ?_); refine goesL_ (some 16) rfl rfl Tryz.func25 (by kernel_rfl) rfl #[.agg #[.int .i64 a1_0, .int .i64 a1_1], .agg #[.int .i64 a0_0, .int .i64 a0_1]] rfl (by (try simp only [mp]); first | done | rfl | (simp only [ld]; rfl)) ?_; (with_reducible refine (ratio_Cmp.calls kj2 a1_0 a1_1 a0_0 a0_1 t301 _ A25.out).mono ?_); rintro e w32 ⟨rfl, hb⟩; refine ⟨_, rfl, ?_⟩; replace BK296 := kb BK296 hb; replace BK297 := kb BK297 hb; replace BK298 := kb BK298 hb; replace HB := hb_ w hb; obtain ⟨hcz33_0, hcz33_1⟩ := bc2 BK297.out; obtain ⟨hfz33_0, hfz33_1⟩ := bf2 BK297.out; obtain ⟨hcz34_0, hcz34_1⟩ := bc2 BK298.out; obtain ⟨hfz34_0, hfz34_1⟩ := bf2 BK298.out)); refine bodyPost_ret (results_cell_row rfl _ _ gb298 23 #[.int .i64 a1_0, .int .i64 a1_1] (0, 0) _ rfl (by exact rq BK298.out (by rfl)) Tryz.underlying23 rfl (by kernel_rfl)) rfl ?_; exact en_
    · rw [if_neg c26] at H; have c26b0 : decide (t301 < 0) = false := decide_eq_false c26; clear c26; simp only [Option.some.injEq, Prod.mk.injEq] at H; obtain ⟨rfl, rfl⟩ := H; have hnb35 := NB297_296.out; have hnc35 := NB296_297.out; have hnb36 := NB297_298.out; have hnc36 := NB298_297.out; obtain ⟨hcz37_0, hcz37_1⟩ := bc2 BK297.out; obtain ⟨hfz37_0, hfz37_1⟩ := bf2 BK297.out; have hnb38 := NB296_298.out; have hnc38 := NB298_296.out; obtain ⟨hcz39_0, hcz39_1⟩ := bc2 BK296.out; obtain ⟨hfz39_0, hfz39_1⟩ := bf2 BK296.out; go_wp2_with (first | ((with_reducible refine gate_callee (f := 25) rfl ?_); refine goesL_ (some 16) rfl rfl Tryz.func25 (by kernel_rfl) rfl #[.agg #[.int .i64 a1_0, .int .i64 a1_1], .agg #[.int .i64 a0_0, .int .i64 a0_1]] rfl (by (try simp only [mp]); first | done | rfl | (simp only [ld]; rfl)) ?_; (with_reducible refine (ratio_Cmp.calls kj2 a1_0 a1_1 a0_0 a0_1 t301 _ A25.out).mono ?_); rintro e w40 ⟨rfl, hb⟩; refine ⟨_, rfl, ?_⟩; replace BK296 := kb BK296 hb; replace BK297 := kb BK297 hb; replace BK298 := kb BK298 hb; replace HB := hb_ w hb; obtain ⟨hcz41_0, hcz41_1⟩ := bc2 BK296.out; obtain ⟨hfz41_0, hfz41_1⟩ := bf2 BK296.out; obtain ⟨hcz42_0, hcz42_1⟩ := bc2 BK298.out; obtain ⟨hfz42_0, hfz42_1⟩ := bf2 BK298.out)); refine bodyPost_ret (results_cell_row rfl _ _ gb298 23 #[.int .i64 a0_0, .int .i64 a0_1] (0, 0) _ rfl (by exact rq BK298.out (by rfl)) Tryz.underlying23 rfl (by kernel_rfl)) rfl ?_; exact en_
def ratio_Max.j0 : Nat → Bool → Int → Int → Int → Int → Option (Int × Int)
 | 0, _, _, _, _, _ => none
 | k + 1, x12, x303000, x303001, x304000, x304001 => if x12 = true then (some (0, 0)) else ((ratio_Cmp.f k x304000 x304001 x303000 x303001).bind fun t307 => (if t307 > 0 then (some (x304000, x304001)) else (some (x303000, x303001))))
def ratio_Max.f (k : Nat) (a0_0 : Int) (a0_1 : Int) (a1_0 : Int) (a1_1 : Int) : Option (Int × Int) := (ratio_Is.f k a0_0 a0_1).bind fun t305 => (if t305 = true then ((ratio_Is.f k a1_0 a1_1).bind fun t306 => (ratio_Max.j0 k (!t306) a0_0 a0_1 a1_0 a1_1)) else (ratio_Max.j0 k true a0_0 a0_1 a1_0 a1_1))
theorem ratio_Max.mono_l : ∀ k, (∀ y0 y1 y2 y3 y4, LeO (ratio_Max.j0 k y0 y1 y2 y3 y4) (ratio_Max.j0 (k + 1) y0 y1 y2 y3 y4))
 | 0 => fun _ _ _ _ _ r h => by simp [ratio_Max.j0] at h
 | k + 1 => by
  have ih0 := ratio_Max.mono_l k
  ·
   intro y0 y1 y2 y3 y4
   unfold ratio_Max.j0
   repeat' first
   | (with_reducible exact ih0 _ _ _ _ _)
   | (with_reducible exact ratio_Cmp.mono _ _ _ _ _)
   | (with_reducible exact ratio_Is.mono _ _ _)
   | (with_reducible exact LeO.refl _)
   | (with_reducible exact LeO.none _)
   | (with_reducible refine LeO.ite ?_ ?_)
   | (with_reducible refine LeO.bind ?_ (fun _ => ?_))
   | exact ih0 _ _ _ _ _
   | exact ratio_Cmp.mono _ _ _ _ _
   | exact ratio_Is.mono _ _ _
   | exact LeO.none _
   | refine LeO.ite ?_ ?_
   | refine LeO.bind ?_ (fun _ => ?_)
theorem ratio_Max.mono : ∀ a0 a1 a2 a3 k, LeO (ratio_Max.f k a0 a1 a2 a3) (ratio_Max.f (k + 1) a0 a1 a2 a3) := by
 intro a0 a1 a2 a3 k
 have ih0 := ratio_Max.mono_l k
 unfold ratio_Max.f
 repeat' first
   | (with_reducible exact ih0 _ _ _ _ _)
   | (with_reducible exact ratio_Cmp.mono _ _ _ _ _)
   | (with_reducible exact ratio_Is.mono _ _ _)
   | (with_reducible exact LeO.refl _)
   | (with_reducible exact LeO.none _)
   | (with_reducible refine LeO.ite ?_ ?_)
   | (with_reducible refine LeO.bind ?_ (fun _ => ?_))
   | exact ih0 _ _ _ _ _
   | exact ratio_Cmp.mono _ _ _ _ _
   | exact ratio_Is.mono _ _ _
   | exact LeO.none _
   | refine LeO.ite ?_ ?_
   | refine LeO.bind ?_ (fun _ => ?_)
end Go.Proofs.YtlibjgmnookakaaGreatDoor.SSpanSays
namespace Go.Proofs.YtlibjgmnookakaaGreatDoor.SSpanSays
open Go.RowKit Go.Proofs.YtlibjgmnookakaaGreatDoor.Wd.PrintWords Go.Proofs.YtlibjgmnookakaaGreatDoor.Wd.PrintLast Go.Proofs.YtlibjgmnookakaaGreatDoor.Wd.PrintMore
attribute [local go_sem] max2_int min2_int max_two min_two max_three min_three max_four min_four
attribute [local go_sem] max2_int min2_int max_two min_two max_three min_three max_four min_four
attribute [local go_sem] max2_int min2_int max_two min_two max_three min_three max_four min_four
attribute [local go_sem high] eqA23
attribute [local go_sem high] eqA25
set_option maxHeartbeats 8000000 in
set_option maxRecDepth 100000 in
theorem ratio_Max.calls (k : Nat) (a0_0 : Int) (a0_1 : Int) (a1_0 : Int) (a1_1 : Int) (r1 : Int) (r2 : Int) (w : World) (h : ratio_Max.f k a0_0 a0_1 a1_0 a1_1 = some (r1, r2)) :
  Calls Tryz.prog 37 #[.agg #[.int .i64 a0_0, .int .i64 a0_1], .agg #[.int .i64 a1_0, .int .i64 a1_1]] w fun e w' => e = .returned (.agg #[.int .i64 r1, .int .i64 r2]) ∧ Below w.heap.size w w' := by
 have hu23 := Tryz.underlying23; have HB := Aside0.mk (Below.refl w.heap.size w); have H : ((ratio_Is.f k a0_0 a0_1).bind fun t305 => (if t305 = true then ((ratio_Is.f k a1_0 a1_1).bind fun t306 => (ratio_Max.j0 k (!t306) a0_0 a0_1 a1_0 a1_1)) else (ratio_Max.j0 k true a0_0 a0_1 a1_0 a1_1))) = some (r1, r2) := h; clear h; have HC3 := Aside0.mk H; clear H; go_enter Tryz.func37, Tryz.ntmps37; go_upto_region 1 with (first | ((with_reducible refine gate_dst (N := 2) rfl ?_); refine bx_ 2 #[.int .i64 a0_0, .int .i64 a0_1] 23 ?_; intro gb302 hg w4 BK302 hb; have GE302 := hz_ hg HB; replace HB := hs HB hb; clear hb hg) | ((with_reducible refine gate_dst (N := 3) rfl ?_); refine bx_ 3 #[.int .i64 a1_0, .int .i64 a1_1] 23 ?_; intro gb303 hg w5 BK303 hb; have GE303 := ge_ w hg; have NB302_303 := nlk hg BK302; have NB303_302 := ngk hg BK302; replace BK302 := kb BK302 hb; replace HB := hb_ w hb; clear hb hg) | ((with_reducible refine gate_dst (N := 4) rfl ?_); refine bx_ 4 #[.int .i64 0, .int .i64 0] 23 ?_; intro gb304 hg w6 BK304 hb; have GE304 := ge_ w hg; have NB302_304 := nlk hg BK302; have NB304_302 := ngk hg BK302; have NB303_304 := nlk hg BK303; have NB304_303 := ngk hg BK303; replace BK302 := kb BK302 hb; replace BK303 := kb BK303 hb; replace HB := hb_ w hb; clear hb hg)); (try simp only [Act.put, List.setIfInBounds_toArray, List.set_cons_zero, List.set_cons_succ])
 go_cut [12] (fun v12 wc => ∃ (kq : Nat) (x12_2 : Bool), v12 = .bool x12_2 ∧ Aside0 (ratio_Max.j0 kq x12_2 a0_0 a0_1 a1_0 a1_1 = some (r1, r2)) ∧ Aside0 (kq ≤ k) ∧ Aside0 (wc.heap[gb302]? = some (.cells #[.int .i64 a0_0, .int .i64 a0_1] 23 (0, 0))) ∧ Aside0 (wc.heap[gb303]? = some (.cells #[.int .i64 a1_0, .int .i64 a1_1] 23 (0, 0))) ∧ Aside0 (wc.heap[gb304]? = some (.cells #[.int .i64 0, .int .i64 0] 23 (0, 0))) ∧ Aside0 (Below w.heap.size w wc))
 case first =>
  have H := HC3.out; clear HC3; replace H := Option.bind_eq_some_iff.mp H; obtain ⟨t305, A70, H⟩ := H; (try dsimp only at H); have A7 := Aside0.mk A70; clear A70; by_cases c8 : t305 = true
  ·
   subst c8; rw [if_pos rfl] at H; replace H := Option.bind_eq_some_iff.mp H; obtain ⟨t306, A90, H⟩ := H; (try dsimp only at H); have A9 := Aside0.mk A90; clear A90; have H' := Aside0.mk H; clear H; have hnb10 := NB302_303.out; have hnc10 := NB303_302.out; have hnb11 := NB302_304.out; have hnc11 := NB304_302.out; obtain ⟨hcz12_0, hcz12_1⟩ := bc2 BK302.out; obtain ⟨hfz12_0, hfz12_1⟩ := bf2 BK302.out; go_wp2_with (first | ((with_reducible refine gate_callee (f := 24) rfl ?_); refine goesL_ (some 6) rfl rfl Tryz.func24 (by kernel_rfl) rfl #[.agg #[.int .i64 a0_0, .int .i64 a0_1]] rfl (by (try simp only [mp]); first | done | rfl | (simp only [ld]; rfl)) ?_; (with_reducible refine (ratio_Is.calls k a0_0 a0_1 true _ A7.out).mono ?_); rintro e w13 ⟨rfl, hb⟩; refine ⟨_, rfl, ?_⟩; replace BK302 := kb BK302 hb; replace BK303 := kb BK303 hb; replace BK304 := kb BK304 hb; replace HB := hb_ w hb; have hnb14 := NB303_304.out; have hnc14 := NB304_303.out; obtain ⟨hcz15_0, hcz15_1⟩ := bc2 BK303.out; obtain ⟨hfz15_0, hfz15_1⟩ := bf2 BK303.out) | (go_at_call 24; (with_reducible refine (ratio_Is.calls k a1_0 a1_1 t306 _ A9.out).mono ?_); rintro e w16 ⟨rfl, hb⟩; replace BK302 := kb BK302 hb; replace BK303 := kb BK303 hb; replace BK304 := kb BK304 hb; replace HB := hb_ w hb; )); go_meet
   case rel => exact ⟨_, (!t306), (by first | rfl | (simp; done) | (simp [*]; done)), H', ⟨by first | omega | exact Nat.le_refl _⟩, ⟨bk BK302.out⟩, ⟨bk BK303.out⟩, ⟨bk BK304.out⟩, ab2_⟩
  ·
   replace c8 := Bool.eq_false_iff.mpr c8; subst c8; rw [if_neg (show ¬ (false = true) by decide)] at H; have H' := Aside0.mk H; clear H; have hnb17 := NB302_303.out; have hnc17 := NB303_302.out; have hnb18 := NB302_304.out; have hnc18 := NB304_302.out; obtain ⟨hcz19_0, hcz19_1⟩ := bc2 BK302.out; obtain ⟨hfz19_0, hfz19_1⟩ := bf2 BK302.out; go_wp2_with (first | ((with_reducible refine gate_callee (f := 24) rfl ?_); refine goesL_ (some 6) rfl rfl Tryz.func24 (by kernel_rfl) rfl #[.agg #[.int .i64 a0_0, .int .i64 a0_1]] rfl (by (try simp only [mp]); first | done | rfl | (simp only [ld]; rfl)) ?_; (with_reducible refine (ratio_Is.calls k a0_0 a0_1 false _ A7.out).mono ?_); rintro e w20 ⟨rfl, hb⟩; refine ⟨_, rfl, ?_⟩; replace BK302 := kb BK302 hb; replace BK303 := kb BK303 hb; replace BK304 := kb BK304 hb; replace HB := hb_ w hb; )); go_meet
   case rel => exact ⟨_, (true), (by first | rfl | (simp; done) | (simp [*]; done)), H', ⟨by first | omega | exact Nat.le_refl _⟩, ⟨bk BK302.out⟩, ⟨bk BK303.out⟩, ⟨bk BK304.out⟩, ab2_⟩
 case rest =>
  clear HC3; obtain ⟨kq, x12_2, rfl, HA, HJ2, BK302, BK303, BK304, HB⟩ := hcut; cases kq with
  | zero => exact absurd HA.out (by simp [ratio_Max.j0])
  | succ kj2 =>
   have H := HA.out; clear HA; simp only [ratio_Max.j0] at H; by_cases c21 : x12_2 = true
   · subst c21; rw [if_pos rfl] at H; simp only [Option.some.injEq, Prod.mk.injEq] at H; obtain ⟨rfl, rfl⟩ := H; have hnb22 := NB304_302.out; have hnc22 := NB302_304.out; have hnb23 := NB304_303.out; have hnc23 := NB303_304.out; obtain ⟨hcz24_0, hcz24_1⟩ := bc2 BK304.out; obtain ⟨hfz24_0, hfz24_1⟩ := bf2 BK304.out; go_wp2; refine bodyPost_ret (results_cell_row rfl _ _ gb304 23 #[.int .i64 0, .int .i64 0] (0, 0) _ rfl (by exact rq BK304.out (by rfl)) Tryz.underlying23 rfl (by kernel_rfl)) rfl ?_; exact en_
   ·
    replace c21 := Bool.eq_false_iff.mpr c21; subst c21; rw [if_neg (show ¬ (false = true) by decide)] at H; replace H := Option.bind_eq_some_iff.mp H; obtain ⟨t307, A250, H⟩ := H; (try dsimp only at H); have A25 := Aside0.mk A250; clear A250; by_cases c26 : t307 > 0
    · rw [if_pos c26] at H; have c26b0 : decide (0 < t307) = true := decide_eq_true c26; clear c26; simp only [Option.some.injEq, Prod.mk.injEq] at H; obtain ⟨rfl, rfl⟩ := H; have hnb27 := NB303_302.out; have hnc27 := NB302_303.out; have hnb28 := NB303_304.out; have hnc28 := NB304_303.out; obtain ⟨hcz29_0, hcz29_1⟩ := bc2 BK303.out; obtain ⟨hfz29_0, hfz29_1⟩ := bf2 BK303.out; have hnb30 := NB302_304.out; have hnc30 := NB304_302.out; obtain ⟨hcz31_0, hcz31_1⟩ := bc2 BK302.out; obtain ⟨hfz31_0, hfz31_1⟩ := bf2 BK302.out; go_wp2_with (first | ((with_reducible refine gate_callee (f := 25) rfl ?_); refine goesL_ (some 16) rfl rfl Tryz.func25 (by kernel_rfl) rfl #[.agg #[.int .i64 a1_0, .int .i64 a1_1], .agg #[.int .i64 a0_0, .int .i64 a0_1]] rfl (by (try simp only [mp]); first | done | rfl | (simp only [ld]; rfl)) ?_; (with_reducible refine (ratio_Cmp.calls kj2 a1_0 a1_1 a0_0 a0_1 t307 _ A25.out).mono ?_); rintro e w32 ⟨rfl, hb⟩; refine ⟨_, rfl, ?_⟩; replace BK302 := kb BK302 hb; replace BK303 := kb BK303 hb; replace BK304 := kb BK304 hb; replace HB := hb_ w hb; obtain ⟨hcz33_0, hcz33_1⟩ := bc2 BK303.out; obtain ⟨hfz33_0, hfz33_1⟩ := bf2 BK303.out; obtain ⟨hcz34_0, hcz34_1⟩ := bc2 BK304.out; obtain ⟨hfz34_0, hfz34_1⟩ := bf2 BK304.out)); refine bodyPost_ret (results_cell_row rfl _ _ gb304 23 #[.int .i64 a1_0, .int .i64 a1_1] (0, 0) _ rfl (by exact rq BK304.out (by rfl)) Tryz.underlying23 rfl (by kernel_rfl)) rfl ?_; exact en_
    · rw [if_neg c26] at H; have c26b0 : decide (0 < t307) = false := decide_eq_false c26; clear c26; simp only [Option.some.injEq, Prod.mk.injEq] at H; obtain ⟨rfl, rfl⟩ := H; have hnb35 := NB303_302.out; have hnc35 := NB302_303.out; have hnb36 := NB303_304.out; have hnc36 := NB304_303.out; obtain ⟨hcz37_0, hcz37_1⟩ := bc2 BK303.out; obtain ⟨hfz37_0, hfz37_1⟩ := bf2 BK303.out; have hnb38 := NB302_304.out; have hnc38 := NB304_302.out; obtain ⟨hcz39_0, hcz39_1⟩ := bc2 BK302.out; obtain ⟨hfz39_0, hfz39_1⟩ := bf2 BK302.out; go_wp2_with (first | ((with_reducible refine gate_callee (f := 25) rfl ?_); refine goesL_ (some 16) rfl rfl Tryz.func25 (by kernel_rfl) rfl #[.agg #[.int .i64 a1_0, .int .i64 a1_1], .agg #[.int .i64 a0_0, .int .i64 a0_1]] rfl (by (try simp only [mp]); first | done | rfl | (simp only [ld]; rfl)) ?_; (with_reducible refine (ratio_Cmp.calls kj2 a1_0 a1_1 a0_0 a0_1 t307 _ A25.out).mono ?_); rintro e w40 ⟨rfl, hb⟩; refine ⟨_, rfl, ?_⟩; replace BK302 := kb BK302 hb; replace BK303 := kb BK303 hb; replace BK304 := kb BK304 hb; replace HB := hb_ w hb; obtain ⟨hcz41_0, hcz41_1⟩ := bc2 BK302.out; obtain ⟨hfz41_0, hfz41_1⟩ := bf2 BK302.out; obtain ⟨hcz42_0, hcz42_1⟩ := bc2 BK304.out; obtain ⟨hfz42_0, hfz42_1⟩ := bf2 BK304.out)); refine bodyPost_ret (results_cell_row rfl _ _ gb304 23 #[.int .i64 a0_0, .int .i64 a0_1] (0, 0) _ rfl (by exact rq BK304.out (by rfl)) Tryz.underlying23 rfl (by kernel_rfl)) rfl ?_; exact en_
mutual
def span_Join.j0 : Nat → Bool → Int → Int → Int → Int → Int → Bool → Bool → Int → Int → Int → Int → Int → Bool → Bool → Option (Int × Int × Int × Int × Int × Bool × Bool)
 | 0, _, _, _, _, _, _, _, _, _, _, _, _, _, _, _ => none
 | k + 1, x5, x309000, x309001, x309002, x309003, x309004, x309005, x309006, x310000, x310001, x310002, x310003, x310004, x310005, x310006 => if x309006 = true then (span_Join.j1 k x5 x310000 x310001 x310002 x310003 x310004 x310005 x310006 x309000 x309001 x309002 x309003 x309004 x309005 x309006) else (span_Join.j1 k x5 x309000 x309001 x309002 x309003 x309004 x309005 x309006 x310000 x310001 x310002 x310003 x310004 x310005 x310006)
def span_Join.j1 : Nat → Bool → Int → Int → Int → Int → Int → Bool → Bool → Int → Int → Int → Int → Int → Bool → Bool → Option (Int × Int × Int × Int × Int × Bool × Bool)
 | 0, _, _, _, _, _, _, _, _, _, _, _, _, _, _, _ => none
 | k + 1, x5, x309000, x309001, x309002, x309003, x309004, x309005, x309006, x310000, x310001, x310002, x310003, x310004, x310005, x310006 => if x310006 = true then (some (x309000, x309001, x309002, x309003, x309004, x5, x309006)) else ((span_common.f k x309004 x310004).bind fun t325 => ((ratio_Is.f k x309000 x309001).bind fun t327 => (if t327 = true then ((ratio_Is.f k x310000 x310001).bind fun t328 => (span_Join.j2 k t328 x309000 x309001 x309002 x309003 x309004 x309005 x309006 x310000 x310001 x310002 x310003 x310004 x310005 x310006 0 0 0 0 t325 x5 false)) else (span_Join.j2 k false x309000 x309001 x309002 x309003 x309004 x309005 x309006 x310000 x310001 x310002 x310003 x310004 x310005 x310006 0 0 0 0 t325 x5 false))))
def span_Join.j2 : Nat → Bool → Int → Int → Int → Int → Int → Bool → Bool → Int → Int → Int → Int → Int → Bool → Bool → Int → Int → Int → Int → Int → Bool → Bool → Option (Int × Int × Int × Int × Int × Bool × Bool)
 | 0, _, _, _, _, _, _, _, _, _, _, _, _, _, _, _, _, _, _, _, _, _, _ => none
 | k + 1, x40, x309000, x309001, x309002, x309003, x309004, x309005, x309006, x310000, x310001, x310002, x310003, x310004, x310005, x310006, x327000, x327001, x327002, x327003, x327004, x327005, x327006 => if x40 = true then ((ratio_Min.f k x309000 x309001 x310000 x310001).bind fun bt329 => (span_Join.j3 k x309000 x309001 x309002 x309003 x309004 x309005 x309006 x310000 x310001 x310002 x310003 x310004 x310005 x310006 bt329.1 bt329.2 x327002 x327003 x327004 x327005 x327006)) else (span_Join.j3 k x309000 x309001 x309002 x309003 x309004 x309005 x309006 x310000 x310001 x310002 x310003 x310004 x310005 x310006 x327000 x327001 x327002 x327003 x327004 x327005 x327006)
def span_Join.j3 : Nat → Int → Int → Int → Int → Int → Bool → Bool → Int → Int → Int → Int → Int → Bool → Bool → Int → Int → Int → Int → Int → Bool → Bool → Option (Int × Int × Int × Int × Int × Bool × Bool)
 | 0, _, _, _, _, _, _, _, _, _, _, _, _, _, _, _, _, _, _, _, _, _ => none
 | k + 1, x309000, x309001, x309002, x309003, x309004, x309005, x309006, x310000, x310001, x310002, x310003, x310004, x310005, x310006, x327000, x327001, x327002, x327003, x327004, x327005, x327006 => (ratio_Is.f k x309002 x309003).bind fun t331 => (if t331 = true then ((ratio_Is.f k x310002 x310003).bind fun t332 => (if t332 = true then ((ratio_Max.f k x309002 x309003 x310002 x310003).bind fun bt333 => (some (x327000, x327001, bt333.1, bt333.2, x327004, x327005, x327006))) else (some (x327000, x327001, x327002, x327003, x327004, x327005, x327006)))) else (some (x327000, x327001, x327002, x327003, x327004, x327005, x327006)))
end
def span_Join.f (k : Nat) (a0_0 : Int) (a0_1 : Int) (a0_2 : Int) (a0_3 : Int) (a0_4 : Int) (a0_5 : Bool) (a0_6 : Bool) (a1_0 : Int) (a1_1 : Int) (a1_2 : Int) (a1_3 : Int) (a1_4 : Int) (a1_5 : Bool) (a1_6 : Bool) : Option (Int × Int × Int × Int × Int × Bool × Bool) := (span_valid.f k a0_0 a0_1 a0_2 a0_3 a0_4 a0_5 a0_6).bind fun bt311 => ((span_valid.f k a1_0 a1_1 a1_2 a1_3 a1_4 a1_5 a1_6).bind fun bt318 => (if bt311.2.2.2.2.2.1 = true then (span_Join.j0 k true bt311.1 bt311.2.1 bt311.2.2.1 bt311.2.2.2.1 bt311.2.2.2.2.1 bt311.2.2.2.2.2.1 bt311.2.2.2.2.2.2 bt318.1 bt318.2.1 bt318.2.2.1 bt318.2.2.2.1 bt318.2.2.2.2.1 bt318.2.2.2.2.2.1 bt318.2.2.2.2.2.2) else (span_Join.j0 k bt318.2.2.2.2.2.1 bt311.1 bt311.2.1 bt311.2.2.1 bt311.2.2.2.1 bt311.2.2.2.2.1 bt311.2.2.2.2.2.1 bt311.2.2.2.2.2.2 bt318.1 bt318.2.1 bt318.2.2.1 bt318.2.2.2.1 bt318.2.2.2.2.1 bt318.2.2.2.2.2.1 bt318.2.2.2.2.2.2)))
theorem span_Join.mono_l : ∀ k, (∀ y0 y1 y2 y3 y4 y5 y6 y7 y8 y9 y10 y11 y12 y13 y14, LeO (span_Join.j0 k y0 y1 y2 y3 y4 y5 y6 y7 y8 y9 y10 y11 y12 y13 y14) (span_Join.j0 (k + 1) y0 y1 y2 y3 y4 y5 y6 y7 y8 y9 y10 y11 y12 y13 y14)) ∧ (∀ y0 y1 y2 y3 y4 y5 y6 y7 y8 y9 y10 y11 y12 y13 y14, LeO (span_Join.j1 k y0 y1 y2 y3 y4 y5 y6 y7 y8 y9 y10 y11 y12 y13 y14) (span_Join.j1 (k + 1) y0 y1 y2 y3 y4 y5 y6 y7 y8 y9 y10 y11 y12 y13 y14)) ∧ (∀ y0 y1 y2 y3 y4 y5 y6 y7 y8 y9 y10 y11 y12 y13 y14 y15 y16 y17 y18 y19 y20 y21, LeO (span_Join.j2 k y0 y1 y2 y3 y4 y5 y6 y7 y8 y9 y10 y11 y12 y13 y14 y15 y16 y17 y18 y19 y20 y21) (span_Join.j2 (k + 1) y0 y1 y2 y3 y4 y5 y6 y7 y8 y9 y10 y11 y12 y13 y14 y15 y16 y17 y18 y19 y20 y21)) ∧ (∀ y0 y1 y2 y3 y4 y5 y6 y7 y8 y9 y10 y11 y12 y13 y14 y15 y16 y17 y18 y19 y20, LeO (span_Join.j3 k y0 y1 y2 y3 y4 y5 y6 y7 y8 y9 y10 y11 y12 y13 y14 y15 y16 y17 y18 y19 y20) (span_Join.j3 (k + 1) y0 y1 y2 y3 y4 y5 y6 y7 y8 y9 y10 y11 y12 y13 y14 y15 y16 y17 y18 y19 y20))
 | 0 => ⟨fun _ _ _ _ _ _ _ _ _ _ _ _ _ _ _ r h => by simp [span_Join.j0] at h, fun _ _ _ _ _ _ _ _ _ _ _ _ _ _ _ r h => by simp [span_Join.j1] at h, fun _ _ _ _ _ _ _ _ _ _ _ _ _ _ _ _ _ _ _ _ _ _ r h => by simp [span_Join.j2] at h, fun _ _ _ _ _ _ _ _ _ _ _ _ _ _ _ _ _ _ _ _ _ r h => by simp [span_Join.j3] at h⟩
 | k + 1 => by
  obtain ⟨ih0, ih1, ih2, ih3⟩ := span_Join.mono_l k
  refine ⟨?_, ?_, ?_, ?_⟩
  ·
   intro y0 y1 y2 y3 y4 y5 y6 y7 y8 y9 y10 y11 y12 y13 y14
   unfold span_Join.j0
   repeat' first
   | (with_reducible exact ih0 _ _ _ _ _ _ _ _ _ _ _ _ _ _ _)
   | (with_reducible exact ih1 _ _ _ _ _ _ _ _ _ _ _ _ _ _ _)
   | (with_reducible exact ih2 _ _ _ _ _ _ _ _ _ _ _ _ _ _ _ _ _ _ _ _ _ _)
   | (with_reducible exact ih3 _ _ _ _ _ _ _ _ _ _ _ _ _ _ _ _ _ _ _ _ _)
   | (with_reducible exact ratio_Is.mono _ _ _)
   | (with_reducible exact ratio_Max.mono _ _ _ _ _)
   | (with_reducible exact ratio_Min.mono _ _ _ _ _)
   | (with_reducible exact span_common.mono _ _ _)
   | (with_reducible exact span_valid.mono _ _ _ _ _ _ _ _)
   | (with_reducible exact LeO.refl _)
   | (with_reducible exact LeO.none _)
   | (with_reducible refine LeO.ite ?_ ?_)
   | (with_reducible refine LeO.bind ?_ (fun _ => ?_))
   | exact ih0 _ _ _ _ _ _ _ _ _ _ _ _ _ _ _
   | exact ih1 _ _ _ _ _ _ _ _ _ _ _ _ _ _ _
   | exact ih2 _ _ _ _ _ _ _ _ _ _ _ _ _ _ _ _ _ _ _ _ _ _
   | exact ih3 _ _ _ _ _ _ _ _ _ _ _ _ _ _ _ _ _ _ _ _ _
   | exact ratio_Is.mono _ _ _
   | exact ratio_Max.mono _ _ _ _ _
   | exact ratio_Min.mono _ _ _ _ _
   | exact span_common.mono _ _ _
   | exact span_valid.mono _ _ _ _ _ _ _ _
   | exact LeO.none _
   | refine LeO.ite ?_ ?_
   | refine LeO.bind ?_ (fun _ => ?_)
  ·
   intro y0 y1 y2 y3 y4 y5 y6 y7 y8 y9 y10 y11 y12 y13 y14
   unfold span_Join.j1
   repeat' first
   | (with_reducible exact ih0 _ _ _ _ _ _ _ _ _ _ _ _ _ _ _)
   | (with_reducible exact ih1 _ _ _ _ _ _ _ _ _ _ _ _ _ _ _)
   | (with_reducible exact ih2 _ _ _ _ _ _ _ _ _ _ _ _ _ _ _ _ _ _ _ _ _ _)
   | (with_reducible exact ih3 _ _ _ _ _ _ _ _ _ _ _ _ _ _ _ _ _ _ _ _ _)
   | (with_reducible exact ratio_Is.mono _ _ _)
   | (with_reducible exact ratio_Max.mono _ _ _ _ _)
   | (with_reducible exact ratio_Min.mono _ _ _ _ _)
   | (with_reducible exact span_common.mono _ _ _)
   | (with_reducible exact span_valid.mono _ _ _ _ _ _ _ _)
   | (with_reducible exact LeO.refl _)
   | (with_reducible exact LeO.none _)
   | (with_reducible refine LeO.ite ?_ ?_)
   | (with_reducible refine LeO.bind ?_ (fun _ => ?_))
   | exact ih0 _ _ _ _ _ _ _ _ _ _ _ _ _ _ _
   | exact ih1 _ _ _ _ _ _ _ _ _ _ _ _ _ _ _
   | exact ih2 _ _ _ _ _ _ _ _ _ _ _ _ _ _ _ _ _ _ _ _ _ _
   | exact ih3 _ _ _ _ _ _ _ _ _ _ _ _ _ _ _ _ _ _ _ _ _
   | exact ratio_Is.mono _ _ _
   | exact ratio_Max.mono _ _ _ _ _
   | exact ratio_Min.mono _ _ _ _ _
   | exact span_common.mono _ _ _
   | exact span_valid.mono _ _ _ _ _ _ _ _
   | exact LeO.none _
   | refine LeO.ite ?_ ?_
   | refine LeO.bind ?_ (fun _ => ?_)
  ·
   intro y0 y1 y2 y3 y4 y5 y6 y7 y8 y9 y10 y11 y12 y13 y14 y15 y16 y17 y18 y19 y20 y21
   unfold span_Join.j2
   repeat' first
   | (with_reducible exact ih0 _ _ _ _ _ _ _ _ _ _ _ _ _ _ _)
   | (with_reducible exact ih1 _ _ _ _ _ _ _ _ _ _ _ _ _ _ _)
   | (with_reducible exact ih2 _ _ _ _ _ _ _ _ _ _ _ _ _ _ _ _ _ _ _ _ _ _)
   | (with_reducible exact ih3 _ _ _ _ _ _ _ _ _ _ _ _ _ _ _ _ _ _ _ _ _)
   | (with_reducible exact ratio_Is.mono _ _ _)
   | (with_reducible exact ratio_Max.mono _ _ _ _ _)
   | (with_reducible exact ratio_Min.mono _ _ _ _ _)
   | (with_reducible exact span_common.mono _ _ _)
   | (with_reducible exact span_valid.mono _ _ _ _ _ _ _ _)
   | (with_reducible exact LeO.refl _)
   | (with_reducible exact LeO.none _)
   | (with_reducible refine LeO.ite ?_ ?_)
   | (with_reducible refine LeO.bind ?_ (fun _ => ?_))
   | exact ih0 _ _ _ _ _ _ _ _ _ _ _ _ _ _ _
   | exact ih1 _ _ _ _ _ _ _ _ _ _ _ _ _ _ _
   | exact ih2 _ _ _ _ _ _ _ _ _ _ _ _ _ _ _ _ _ _ _ _ _ _
   | exact ih3 _ _ _ _ _ _ _ _ _ _ _ _ _ _ _ _ _ _ _ _ _
   | exact ratio_Is.mono _ _ _
   | exact ratio_Max.mono _ _ _ _ _
   | exact ratio_Min.mono _ _ _ _ _
   | exact span_common.mono _ _ _
   | exact span_valid.mono _ _ _ _ _ _ _ _
   | exact LeO.none _
   | refine LeO.ite ?_ ?_
   | refine LeO.bind ?_ (fun _ => ?_)
  ·
   intro y0 y1 y2 y3 y4 y5 y6 y7 y8 y9 y10 y11 y12 y13 y14 y15 y16 y17 y18 y19 y20
   unfold span_Join.j3
   repeat' first
   | (with_reducible exact ih0 _ _ _ _ _ _ _ _ _ _ _ _ _ _ _)
   | (with_reducible exact ih1 _ _ _ _ _ _ _ _ _ _ _ _ _ _ _)
   | (with_reducible exact ih2 _ _ _ _ _ _ _ _ _ _ _ _ _ _ _ _ _ _ _ _ _ _)
   | (with_reducible exact ih3 _ _ _ _ _ _ _ _ _ _ _ _ _ _ _ _ _ _ _ _ _)
   | (with_reducible exact ratio_Is.mono _ _ _)
   | (with_reducible exact ratio_Max.mono _ _ _ _ _)
   | (with_reducible exact ratio_Min.mono _ _ _ _ _)
   | (with_reducible exact span_common.mono _ _ _)
   | (with_reducible exact span_valid.mono _ _ _ _ _ _ _ _)
   | (with_reducible exact LeO.refl _)
   | (with_reducible exact LeO.none _)
   | (with_reducible refine LeO.ite ?_ ?_)
   | (with_reducible refine LeO.bind ?_ (fun _ => ?_))
   | exact ih0 _ _ _ _ _ _ _ _ _ _ _ _ _ _ _
   | exact ih1 _ _ _ _ _ _ _ _ _ _ _ _ _ _ _
   | exact ih2 _ _ _ _ _ _ _ _ _ _ _ _ _ _ _ _ _ _ _ _ _ _
   | exact ih3 _ _ _ _ _ _ _ _ _ _ _ _ _ _ _ _ _ _ _ _ _
   | exact ratio_Is.mono _ _ _
   | exact ratio_Max.mono _ _ _ _ _
   | exact ratio_Min.mono _ _ _ _ _
   | exact span_common.mono _ _ _
   | exact span_valid.mono _ _ _ _ _ _ _ _
   | exact LeO.none _
   | refine LeO.ite ?_ ?_
   | refine LeO.bind ?_ (fun _ => ?_)
theorem span_Join.mono : ∀ a0 a1 a2 a3 a4 a5 a6 a7 a8 a9 a10 a11 a12 a13 k, LeO (span_Join.f k a0 a1 a2 a3 a4 a5 a6 a7 a8 a9 a10 a11 a12 a13) (span_Join.f (k + 1) a0 a1 a2 a3 a4 a5 a6 a7 a8 a9 a10 a11 a12 a13) := by
 intro a0 a1 a2 a3 a4 a5 a6 a7 a8 a9 a10 a11 a12 a13 k
 obtain ⟨ih0, ih1, ih2, ih3⟩ := span_Join.mono_l k
 unfold span_Join.f
 repeat' first
   | (with_reducible exact ih0 _ _ _ _ _ _ _ _ _ _ _ _ _ _ _)
   | (with_reducible exact ih1 _ _ _ _ _ _ _ _ _ _ _ _ _ _ _)
   | (with_reducible exact ih2 _ _ _ _ _ _ _ _ _ _ _ _ _ _ _ _ _ _ _ _ _ _)
   | (with_reducible exact ih3 _ _ _ _ _ _ _ _ _ _ _ _ _ _ _ _ _ _ _ _ _)
   | (with_reducible exact ratio_Is.mono _ _ _)
   | (with_reducible exact ratio_Max.mono _ _ _ _ _)
   | (with_reducible exact ratio_Min.mono _ _ _ _ _)
   | (with_reducible exact span_common.mono _ _ _)
   | (with_reducible exact span_valid.mono _ _ _ _ _ _ _ _)
   | (with_reducible exact LeO.refl _)
   | (with_reducible exact LeO.none _)
   | (with_reducible refine LeO.ite ?_ ?_)
   | (with_reducible refine LeO.bind ?_ (fun _ => ?_))
   | exact ih0 _ _ _ _ _ _ _ _ _ _ _ _ _ _ _
   | exact ih1 _ _ _ _ _ _ _ _ _ _ _ _ _ _ _
   | exact ih2 _ _ _ _ _ _ _ _ _ _ _ _ _ _ _ _ _ _ _ _ _ _
   | exact ih3 _ _ _ _ _ _ _ _ _ _ _ _ _ _ _ _ _ _ _ _ _
   | exact ratio_Is.mono _ _ _
   | exact ratio_Max.mono _ _ _ _ _
   | exact ratio_Min.mono _ _ _ _ _
   | exact span_common.mono _ _ _
   | exact span_valid.mono _ _ _ _ _ _ _ _
   | exact LeO.none _
   | refine LeO.ite ?_ ?_
   | refine LeO.bind ?_ (fun _ => ?_)
set_option maxHeartbeats 8000000 in
set_option maxRecDepth 100000 in
theorem span_Join.calls (k : Nat) (a0_0 : Int) (a0_1 : Int) (a0_2 : Int) (a0_3 : Int) (a0_4 : Int) (a0_5 : Bool) (a0_6 : Bool) (a1_0 : Int) (a1_1 : Int) (a1_2 : Int) (a1_3 : Int) (a1_4 : Int) (a1_5 : Bool) (a1_6 : Bool) (r1 : Int) (r2 : Int) (r3 : Int) (r4 : Int) (r5 : Int) (r6 : Bool) (r7 : Bool) (w : World) (h : span_Join.f k a0_0 a0_1 a0_2 a0_3 a0_4 a0_5 a0_6 a1_0 a1_1 a1_2 a1_3 a1_4 a1_5 a1_6 = some (r1, r2, r3, r4, r5, r6, r7)) :
  Calls Tryz.prog 12 #[.agg #[.int .i64 a0_0, .int .i64 a0_1, .int .i64 a0_2, .int .i64 a0_3, .int .i64 a0_4, .bool a0_5, .bool a0_6], .agg #[.int .i64 a1_0, .int .i64 a1_1, .int .i64 a1_2, .int .i64 a1_3, .int .i64 a1_4, .bool a1_5, .bool a1_6]] w fun e w' => e = .returned (.agg #[.int .i64 r1, .int .i64 r2, .int .i64 r3, .int .i64 r4, .int .i64 r5, .bool r6, .bool r7]) ∧ Below w.heap.size w w' := by
 have hu25 := Tryz.underlying25; have hu23 := Tryz.underlying23; have HB := Aside0.mk (Below.refl w.heap.size w); have H : ((span_valid.f k a0_0 a0_1 a0_2 a0_3 a0_4 a0_5 a0_6).bind fun bt311 => ((span_valid.f k a1_0 a1_1 a1_2 a1_3 a1_4 a1_5 a1_6).bind fun bt318 => (if bt311.2.2.2.2.2.1 = true then (span_Join.j0 k true bt311.1 bt311.2.1 bt311.2.2.1 bt311.2.2.2.1 bt311.2.2.2.2.1 bt311.2.2.2.2.2.1 bt311.2.2.2.2.2.2 bt318.1 bt318.2.1 bt318.2.2.1 bt318.2.2.2.1 bt318.2.2.2.2.1 bt318.2.2.2.2.2.1 bt318.2.2.2.2.2.2) else (span_Join.j0 k bt318.2.2.2.2.2.1 bt311.1 bt311.2.1 bt311.2.2.1 bt311.2.2.2.1 bt311.2.2.2.2.1 bt311.2.2.2.2.2.1 bt311.2.2.2.2.2.2 bt318.1 bt318.2.1 bt318.2.2.1 bt318.2.2.2.1 bt318.2.2.2.2.1 bt318.2.2.2.2.2.1 bt318.2.2.2.2.2.2)))) = some (r1, r2, r3, r4, r5, r6, r7) := h; clear h; replace H := Option.bind_eq_some_iff.mp H; obtain ⟨⟨t311, t312, t313, t314, t315, t316, t317⟩, A30, H⟩ := H; (try dsimp only at H); have A3 := Aside0.mk A30; clear A30; replace H := Option.bind_eq_some_iff.mp H; obtain ⟨⟨t318, t319, t320, t321, t322, t323, t324⟩, A40, H⟩ := H; (try dsimp only at H); have A4 := Aside0.mk A40; clear A40; have HC5 := Aside0.mk H; clear H; go_enter Tryz.func12, Tryz.ntmps12; (try go_wp2_with (first | ((with_reducible refine gate_dst (N := 2) rfl ?_); refine bx_ 2 #[.int .i64 a0_0, .int .i64 a0_1, .int .i64 a0_2, .int .i64 a0_3, .int .i64 a0_4, .bool a0_5, .bool a0_6] 25 ?_; intro gb308 hg w6 BK308 hb; have GE308 := hz_ hg HB; replace HB := hs HB hb; clear hb hg) | ((with_reducible refine gate_dst (N := 3) rfl ?_); refine bx_ 3 #[.int .i64 a1_0, .int .i64 a1_1, .int .i64 a1_2, .int .i64 a1_3, .int .i64 a1_4, .bool a1_5, .bool a1_6] 25 ?_; intro gb309 hg w7 BK309 hb; have GE309 := ge_ w hg; have NB308_309 := nlk hg BK308; have NB309_308 := ngk hg BK308; replace BK308 := kb BK308 hb; replace HB := hb_ w hb; clear hb hg) | ((with_reducible refine gate_dst (N := 4) rfl ?_); refine bx_ 4 #[.int .i64 0, .int .i64 0, .int .i64 0, .int .i64 0, .int .i64 0, .bool false, .bool false] 25 ?_; intro gb310 hg w8 BK310 hb; have GE310 := ge_ w hg; have NB308_310 := nlk hg BK308; have NB310_308 := ngk hg BK308; have NB309_310 := nlk hg BK309; have NB310_309 := ngk hg BK309; replace BK308 := kb BK308 hb; replace BK309 := kb BK309 hb; replace HB := hb_ w hb; clear hb hg))); replace BK308 := kd BK308; replace BK309 := kd BK309; replace BK310 := kd BK310; replace HB := Aside0.mk (below_drew1 HB.out); refine start_ (n := 6) (S := fun w' => w'.cell? ⟨gb308, 0, none⟩ = some (.int .i64 a0_0) ∧ w'.cell? ⟨gb308, 1, none⟩ = some (.int .i64 a0_1) ∧ w'.cell? ⟨gb308, 2, none⟩ = some (.int .i64 a0_2) ∧ w'.cell? ⟨gb308, 3, none⟩ = some (.int .i64 a0_3) ∧ w'.cell? ⟨gb308, 4, none⟩ = some (.int .i64 a0_4) ∧ w'.cell? ⟨gb308, 5, none⟩ = some (.bool a0_5) ∧ w'.cell? ⟨gb308, 6, none⟩ = some (.bool a0_6) ∧ w'.cell? ⟨gb309, 0, none⟩ = some (.int .i64 a1_0) ∧ w'.cell? ⟨gb309, 1, none⟩ = some (.int .i64 a1_1) ∧ w'.cell? ⟨gb309, 2, none⟩ = some (.int .i64 a1_2) ∧ w'.cell? ⟨gb309, 3, none⟩ = some (.int .i64 a1_3) ∧ w'.cell? ⟨gb309, 4, none⟩ = some (.int .i64 a1_4) ∧ w'.cell? ⟨gb309, 5, none⟩ = some (.bool a1_5) ∧ w'.cell? ⟨gb309, 6, none⟩ = some (.bool a1_6)) (ds := [4, 5]) (bA 6 0) (by kernel_rfl) rfl rfl ⟨(blk_cell BK308.out 0).trans rfl, (blk_cell BK308.out 1).trans rfl, (blk_cell BK308.out 2).trans rfl, (blk_cell BK308.out 3).trans rfl, (blk_cell BK308.out 4).trans rfl, (blk_cell BK308.out 5).trans rfl, (blk_cell BK308.out 6).trans rfl, (blk_cell BK309.out 0).trans rfl, (blk_cell BK309.out 1).trans rfl, (blk_cell BK309.out 2).trans rfl, (blk_cell BK309.out 3).trans rfl, (blk_cell BK309.out 4).trans rfl, (blk_cell BK309.out 5).trans rfl, (blk_cell BK309.out 6).trans rfl⟩ (fun hHeld => ?_); generalize w8.drew = w9 at BK308 BK309 BK310 HB hHeld ⊢; have hH0 := hHeld; have HBW := hbw w9; refine take_ (i := 0) (N := some 7) (v := ?_) (a' := ?_) (bA 6 1) rfl rfl (by kernel_rfl) (fun _ _ _ h => h) (Or.inl ⟨by rfl, ?_⟩) hHeld ?_ ?_; rotate_left
 · rintro w' ⟨s0, s1, s2, s3, s4, s5, s6, s7, s8, s9, s10, s11, s12, s13⟩; go_simp; with_reducible rfl
 rotate_left
 · simp only [ap]; rfl
 refine take_ (i := 2) (N := some 9) (v := ?_) (a' := ?_) (bA 6 5) rfl rfl (by kernel_rfl) (fun _ _ _ h => h) (Or.inl ⟨by rfl, ?_⟩) hHeld ?_ ?_; rotate_left
 · rintro w' ⟨s0, s1, s2, s3, s4, s5, s6, s7, s8, s9, s10, s11, s12, s13⟩; go_simp; with_reducible rfl
 rotate_left
 · simp only [ap]; rfl
 refine one_ (i := 1) (N := some 8) (bA 6 7) rfl rfl (by kernel_rfl) (by decide) (fun K hK => ?_); refine goes_ Tryz.func30 (by kernel_rfl) rfl #[.agg #[.int .i64 a0_0, .int .i64 a0_1, .int .i64 a0_2, .int .i64 a0_3, .int .i64 a0_4, .bool a0_5, .bool a0_6]] (by rfl) rfl rfl (by (try simp only [mp]); first | done | rfl | (simp only [ld]; rfl)) ?_; (with_reducible refine (span_valid.calls k a0_0 a0_1 a0_2 a0_3 a0_4 a0_5 a0_6 t311 t312 t313 t314 t315 t316 t317 _ A3.out).mono ?_); rintro e w10 ⟨rfl, hb⟩; refine ⟨_, rfl, ?_⟩; replace HBW := hs HBW hb; clear hb; refine hK.out _ _ (hc8 HBW.out (hs6 HBW.out) hH0) (fun hHeld => ?_); clear hK K; refine norm_ (a' := ?_) ?_ ?_; rotate_left
 · (show Act.put _ (some 8) _ = _); simp only [ap]; rfl
 refine one_ (i := 3) (N := some 10) (bA 6 15) rfl rfl (by kernel_rfl) (by decide) (fun K hK => ?_); refine goes_ Tryz.func30 (by kernel_rfl) rfl #[.agg #[.int .i64 a1_0, .int .i64 a1_1, .int .i64 a1_2, .int .i64 a1_3, .int .i64 a1_4, .bool a1_5, .bool a1_6]] (by rfl) rfl rfl (by (try simp only [mp]); first | done | rfl | (simp only [ld]; rfl)) ?_; (with_reducible refine (span_valid.calls k a1_0 a1_1 a1_2 a1_3 a1_4 a1_5 a1_6 t318 t319 t320 t321 t322 t323 t324 _ A4.out).mono ?_); rintro e w11 ⟨rfl, hb⟩; refine ⟨_, rfl, ?_⟩; replace HBW := hs HBW hb; clear hb; refine hK.out _ _ (hc8 HBW.out (hs6 HBW.out) hH0) (fun hHeld => ?_); clear hK K; refine norm_ (a' := ?_) ?_ ?_; rotate_left
 · (show Act.put _ (some 10) _ = _); simp only [ap]; rfl
 replace BK308 := kb BK308 HBW.out; replace BK309 := kb BK309 HBW.out; replace BK310 := kb BK310 HBW.out; replace HB := hs HB HBW.out; refine last_ (i := 4) (N := none) (bA 6 31) rfl rfl (by kernel_rfl) (by decide) (fun K hK => ?_); have hs12 : w11.cell? ⟨gb308, 0, none⟩ = some (.int .i64 a0_0) := (blk_cell BK308.out 0).trans rfl; have hfs12 := blk_frozen BK308.out 0; have hns12_1 := NB309_308.out; have hns12_2 := NB310_308.out; have hms12_1 := NB308_309.out; have hms12_2 := NB308_310.out; have hs13 : w11.cell? ⟨gb308, 1, none⟩ = some (.int .i64 a0_1) := (blk_cell BK308.out 1).trans rfl; have hfs13 := blk_frozen BK308.out 1; have hns13_1 := NB309_308.out; have hns13_2 := NB310_308.out; have hms13_1 := NB308_309.out; have hms13_2 := NB308_310.out; have hs14 : w11.cell? ⟨gb308, 2, none⟩ = some (.int .i64 a0_2) := (blk_cell BK308.out 2).trans rfl; have hfs14 := blk_frozen BK308.out 2; have hns14_1 := NB309_308.out; have hns14_2 := NB310_308.out; have hms14_1 := NB308_309.out; have hms14_2 := NB308_310.out; have hs15 : w11.cell? ⟨gb308, 3, none⟩ = some (.int .i64 a0_3) := (blk_cell BK308.out 3).trans rfl; have hfs15 := blk_frozen BK308.out 3; have hns15_1 := NB309_308.out; have hns15_2 := NB310_308.out; have hms15_1 := NB308_309.out; have hms15_2 := NB308_310.out; have hs16 : w11.cell? ⟨gb308, 4, none⟩ = some (.int .i64 a0_4) := (blk_cell BK308.out 4).trans rfl; have hfs16 := blk_frozen BK308.out 4; have hns16_1 := NB309_308.out; have hns16_2 := NB310_308.out; have hms16_1 := NB308_309.out; have hms16_2 := NB308_310.out; have hs17 : w11.cell? ⟨gb308, 5, none⟩ = some (.bool a0_5) := (blk_cell BK308.out 5).trans rfl; have hfs17 := blk_frozen BK308.out 5; have hns17_1 := NB309_308.out; have hns17_2 := NB310_308.out; have hms17_1 := NB308_309.out; have hms17_2 := NB308_310.out; have hs18 : w11.cell? ⟨gb308, 6, none⟩ = some (.bool a0_6) := (blk_cell BK308.out 6).trans rfl; have hfs18 := blk_frozen BK308.out 6; have hns18_1 := NB309_308.out; have hns18_2 := NB310_308.out; have hms18_1 := NB308_309.out; have hms18_2 := NB308_310.out; refine skip_ (w1 := ?_) (by rfl) rfl ?_ ?_; rotate_left
 · go_simp; rfl
 refine hK.out _ _ ?_; clear hK K; generalize hwz : World.setCell _ _ _ = wz; have BZ309 := Aside0.mk (hwz ▸ bfz7 BK309.out NB309_308.out); refine last_ (i := 5) (N := none) (bA 6 63) rfl rfl (by kernel_rfl) (by decide) (fun K hK => ?_); have hs19 : wz.cell? ⟨gb309, 0, none⟩ = some (.int .i64 a1_0) := (blk_cell BZ309.out 0).trans rfl; have hfs19 := blk_frozen BZ309.out 0; have hns19_0 := NB308_309.out; have hns19_2 := NB310_309.out; have hms19_0 := NB309_308.out; have hms19_2 := NB309_310.out; have hs20 : wz.cell? ⟨gb309, 1, none⟩ = some (.int .i64 a1_1) := (blk_cell BZ309.out 1).trans rfl; have hfs20 := blk_frozen BZ309.out 1; have hns20_0 := NB308_309.out; have hns20_2 := NB310_309.out; have hms20_0 := NB309_308.out; have hms20_2 := NB309_310.out; have hs21 : wz.cell? ⟨gb309, 2, none⟩ = some (.int .i64 a1_2) := (blk_cell BZ309.out 2).trans rfl; have hfs21 := blk_frozen BZ309.out 2; have hns21_0 := NB308_309.out; have hns21_2 := NB310_309.out; have hms21_0 := NB309_308.out; have hms21_2 := NB309_310.out; have hs22 : wz.cell? ⟨gb309, 3, none⟩ = some (.int .i64 a1_3) := (blk_cell BZ309.out 3).trans rfl; have hfs22 := blk_frozen BZ309.out 3; have hns22_0 := NB308_309.out; have hns22_2 := NB310_309.out; have hms22_0 := NB309_308.out; have hms22_2 := NB309_310.out; have hs23 : wz.cell? ⟨gb309, 4, none⟩ = some (.int .i64 a1_4) := (blk_cell BZ309.out 4).trans rfl; have hfs23 := blk_frozen BZ309.out 4; have hns23_0 := NB308_309.out; have hns23_2 := NB310_309.out; have hms23_0 := NB309_308.out; have hms23_2 := NB309_310.out; have hs24 : wz.cell? ⟨gb309, 5, none⟩ = some (.bool a1_5) := (blk_cell BZ309.out 5).trans rfl; have hfs24 := blk_frozen BZ309.out 5; have hns24_0 := NB308_309.out; have hns24_2 := NB310_309.out; have hms24_0 := NB309_308.out; have hms24_2 := NB309_310.out; have hs25 : wz.cell? ⟨gb309, 6, none⟩ = some (.bool a1_6) := (blk_cell BZ309.out 6).trans rfl; have hfs25 := blk_frozen BZ309.out 6; have hns25_0 := NB308_309.out; have hns25_2 := NB310_309.out; have hms25_0 := NB309_308.out; have hms25_2 := NB309_310.out; refine skip_ (w1 := ?_) (by rfl) rfl ?_ ?_; rotate_left
 · go_simp; rfl
 refine hK.out _ _ ?_; clear hK K; subst hwz; refine done_ (by kernel_rfl) ?_; clear HBW hH0; go_upto_region 2 with (fail)
 go_cut [5] (fun v5 wc => ∃ (kq : Nat) (x5_4 : Bool), v5 = .bool x5_4 ∧ Aside0 (span_Join.j0 kq x5_4 t311 t312 t313 t314 t315 t316 t317 t318 t319 t320 t321 t322 t323 t324 = some (r1, r2, r3, r4, r5, r6, r7)) ∧ Aside0 (kq ≤ k) ∧ Aside0 (wc.heap[gb308]? = some (.cells #[.int .i64 t311, .int .i64 t312, .int .i64 t313, .int .i64 t314, .int .i64 t315, .bool t316, .bool t317] 25 (0, 0))) ∧ Aside0 (wc.heap[gb309]? = some (.cells #[.int .i64 t318, .int .i64 t319, .int .i64 t320, .int .i64 t321, .int .i64 t322, .bool t323, .bool t324] 25 (0, 0))) ∧ Aside0 (wc.heap[gb310]? = some (.cells #[.int .i64 0, .int .i64 0, .int .i64 0, .int .i64 0, .int .i64 0, .bool false, .bool false] 25 (0, 0))) ∧ Aside0 (Below w.heap.size w wc))
 case first =>
  have H := HC5.out; clear HC5; by_cases c26 : t316 = true
  ·
   subst c26; rw [if_pos rfl] at H; have H' := Aside0.mk H; clear H; have hnb27 := NB308_309.out; have hnc27 := NB309_308.out; have hnb28 := NB308_310.out; have hnc28 := NB310_308.out; obtain ⟨hcz29_0, hcz29_1, hcz29_2, hcz29_3, hcz29_4, hcz29_5, hcz29_6⟩ := bc7 BK308.out; obtain ⟨hfz29_0, hfz29_1, hfz29_2, hfz29_3, hfz29_4, hfz29_5, hfz29_6⟩ := bf7 BK308.out; go_wp2; go_meet
   case rel => exact ⟨_, (true), (by first | rfl | (simp; done) | (simp [*]; done)), H', ⟨by first | omega | exact Nat.le_refl _⟩, ⟨by (iterate 7 refine f1 NB308_309 ?_); exact rq BK308.out (by rfl)⟩, ⟨by refine bk ?_; refine blk_put (cs := #[.int .i64 t318, .int .i64 t319, .int .i64 t320, .int .i64 t321, .int .i64 t322, .bool t323, .bool a1_6]) ?_ 6 _ rfl; refine bk ?_; refine blk_put (cs := #[.int .i64 t318, .int .i64 t319, .int .i64 t320, .int .i64 t321, .int .i64 t322, .bool a1_5, .bool a1_6]) ?_ 5 _ rfl; refine bk ?_; refine blk_put (cs := #[.int .i64 t318, .int .i64 t319, .int .i64 t320, .int .i64 t321, .int .i64 a1_4, .bool a1_5, .bool a1_6]) ?_ 4 _ rfl; refine bk ?_; refine blk_put (cs := #[.int .i64 t318, .int .i64 t319, .int .i64 t320, .int .i64 a1_3, .int .i64 a1_4, .bool a1_5, .bool a1_6]) ?_ 3 _ rfl; refine bk ?_; refine blk_put (cs := #[.int .i64 t318, .int .i64 t319, .int .i64 a1_2, .int .i64 a1_3, .int .i64 a1_4, .bool a1_5, .bool a1_6]) ?_ 2 _ rfl; refine bk ?_; refine blk_put (cs := #[.int .i64 t318, .int .i64 a1_1, .int .i64 a1_2, .int .i64 a1_3, .int .i64 a1_4, .bool a1_5, .bool a1_6]) ?_ 1 _ rfl; refine bk ?_; refine blk_put (cs := #[.int .i64 a1_0, .int .i64 a1_1, .int .i64 a1_2, .int .i64 a1_3, .int .i64 a1_4, .bool a1_5, .bool a1_6]) ?_ 0 _ rfl; (iterate 7 refine f1 NB309_308 ?_); refine bk ?_; exact BK309.out⟩, ⟨by (iterate 7 refine f1 NB310_309 ?_); (iterate 7 refine f1 NB310_308 ?_); refine bk ?_; exact BK310.out⟩, ab2_⟩
  ·
   replace c26 := Bool.eq_false_iff.mpr c26; subst c26; rw [if_neg (show ¬ (false = true) by decide)] at H; have H' := Aside0.mk H; clear H; have hnb30 := NB308_309.out; have hnc30 := NB309_308.out; have hnb31 := NB308_310.out; have hnc31 := NB310_308.out; obtain ⟨hcz32_0, hcz32_1, hcz32_2, hcz32_3, hcz32_4, hcz32_5, hcz32_6⟩ := bc7 BK308.out; obtain ⟨hfz32_0, hfz32_1, hfz32_2, hfz32_3, hfz32_4, hfz32_5, hfz32_6⟩ := bf7 BK308.out; have hnb33 := NB309_310.out; have hnc33 := NB310_309.out; obtain ⟨hcz34_0, hcz34_1, hcz34_2, hcz34_3, hcz34_4, hcz34_5, hcz34_6⟩ := bc7 BK309.out; obtain ⟨hfz34_0, hfz34_1, hfz34_2, hfz34_3, hfz34_4, hfz34_5, hfz34_6⟩ := bf7 BK309.out; go_wp2; go_meet
   case rel => exact ⟨_, (t323), (by first | rfl | (simp; done) | (simp [*]; done)), H', ⟨by first | omega | exact Nat.le_refl _⟩, ⟨by (iterate 7 refine f1 NB308_309 ?_); exact rq BK308.out (by rfl)⟩, ⟨by refine bk ?_; refine blk_put (cs := #[.int .i64 t318, .int .i64 t319, .int .i64 t320, .int .i64 t321, .int .i64 t322, .bool t323, .bool a1_6]) ?_ 6 _ rfl; refine bk ?_; refine blk_put (cs := #[.int .i64 t318, .int .i64 t319, .int .i64 t320, .int .i64 t321, .int .i64 t322, .bool a1_5, .bool a1_6]) ?_ 5 _ rfl; refine bk ?_; refine blk_put (cs := #[.int .i64 t318, .int .i64 t319, .int .i64 t320, .int .i64 t321, .int .i64 a1_4, .bool a1_5, .bool a1_6]) ?_ 4 _ rfl; refine bk ?_; refine blk_put (cs := #[.int .i64 t318, .int .i64 t319, .int .i64 t320, .int .i64 a1_3, .int .i64 a1_4, .bool a1_5, .bool a1_6]) ?_ 3 _ rfl; refine bk ?_; refine blk_put (cs := #[.int .i64 t318, .int .i64 t319, .int .i64 a1_2, .int .i64 a1_3, .int .i64 a1_4, .bool a1_5, .bool a1_6]) ?_ 2 _ rfl; refine bk ?_; refine blk_put (cs := #[.int .i64 t318, .int .i64 a1_1, .int .i64 a1_2, .int .i64 a1_3, .int .i64 a1_4, .bool a1_5, .bool a1_6]) ?_ 1 _ rfl; refine bk ?_; refine blk_put (cs := #[.int .i64 a1_0, .int .i64 a1_1, .int .i64 a1_2, .int .i64 a1_3, .int .i64 a1_4, .bool a1_5, .bool a1_6]) ?_ 0 _ rfl; (iterate 7 refine f1 NB309_308 ?_); refine bk ?_; exact BK309.out⟩, ⟨by (iterate 7 refine f1 NB310_309 ?_); (iterate 7 refine f1 NB310_308 ?_); refine bk ?_; exact BK310.out⟩, ab2_⟩
 case rest =>
  clear HC5; obtain ⟨kq, x5_4, rfl, HA, HJ4, BK308, BK309, BK310, HB⟩ := hcut; cases kq with
  | zero => exact absurd HA.out (by simp [span_Join.j0])
  | succ kj4 =>
   have H := HA.out; clear HA; simp only [span_Join.j0] at H; have HC35 := Aside0.mk H; clear H; have hnb36 := NB308_309.out; have hnc36 := NB309_308.out; have hnb37 := NB308_310.out; have hnc37 := NB310_308.out; obtain ⟨hcz38_0, hcz38_1, hcz38_2, hcz38_3, hcz38_4, hcz38_5, hcz38_6⟩ := bc7 BK308.out; obtain ⟨hfz38_0, hfz38_1, hfz38_2, hfz38_3, hfz38_4, hfz38_5, hfz38_6⟩ := bf7 BK308.out; go_upto_if 18 with (fail)
   go_cut [] (fun wc => ∃ (kq : Nat) (x309000_34 : Int) (x309001_34 : Int) (x309002_34 : Int) (x309003_34 : Int) (x309004_34 : Int) (x309005_34 : Bool) (x309006_34 : Bool) (x310000_34 : Int) (x310001_34 : Int) (x310002_34 : Int) (x310003_34 : Int) (x310004_34 : Int) (x310005_34 : Bool) (x310006_34 : Bool), Aside0 (span_Join.j1 kq x5_4 x309000_34 x309001_34 x309002_34 x309003_34 x309004_34 x309005_34 x309006_34 x310000_34 x310001_34 x310002_34 x310003_34 x310004_34 x310005_34 x310006_34 = some (r1, r2, r3, r4, r5, r6, r7)) ∧ Aside0 (kq ≤ kj4) ∧ Aside0 (wc.heap[gb308]? = some (.cells #[.int .i64 x309000_34, .int .i64 x309001_34, .int .i64 x309002_34, .int .i64 x309003_34, .int .i64 x309004_34, .bool x309005_34, .bool x309006_34] 25 (0, 0))) ∧ Aside0 (wc.heap[gb309]? = some (.cells #[.int .i64 x310000_34, .int .i64 x310001_34, .int .i64 x310002_34, .int .i64 x310003_34, .int .i64 x310004_34, .bool x310005_34, .bool x310006_34] 25 (0, 0))) ∧ Aside0 (wc.heap[gb310]? = some (.cells #[.int .i64 0, .int .i64 0, .int .i64 0, .int .i64 0, .int .i64 0, .bool false, .bool false] 25 (0, 0))) ∧ Aside0 (Below w.heap.size w wc))
   case first =>
    have H := HC35.out; clear HC35; by_cases c39 : t317 = true
    ·
     subst c39; rw [if_pos rfl] at H; have H' := Aside0.mk H; clear H; have hnb40 := NB309_308.out; have hnc40 := NB308_309.out; have hnb41 := NB309_310.out; have hnc41 := NB310_309.out; obtain ⟨hcz42_0, hcz42_1, hcz42_2, hcz42_3, hcz42_4, hcz42_5, hcz42_6⟩ := bc7 BK309.out; obtain ⟨hfz42_0, hfz42_1, hfz42_2, hfz42_3, hfz42_4, hfz42_5, hfz42_6⟩ := bf7 BK309.out; have hnb43 := NB308_310.out; have hnc43 := NB310_308.out; obtain ⟨hcz44_0, hcz44_1, hcz44_2, hcz44_3, hcz44_4, hcz44_5, hcz44_6⟩ := bc7 BK308.out; obtain ⟨hfz44_0, hfz44_1, hfz44_2, hfz44_3, hfz44_4, hfz44_5, hfz44_6⟩ := bf7 BK308.out; go_wp2; go_meet
     case rel => exact ⟨_, (t318), (t319), (t320), (t321), (t322), (t323), (t324), (t311), (t312), (t313), (t314), (t315), (t316), (true), H', ⟨by have := HJ4.out; first | omega | exact Nat.le_refl _⟩, ⟨by (iterate 7 refine f1 NB308_309 ?_); exact rq BK308.out (by rfl)⟩, ⟨by refine bk ?_; refine blk_put (cs := #[.int .i64 t311, .int .i64 t312, .int .i64 t313, .int .i64 t314, .int .i64 t315, .bool t316, .bool t324]) ?_ 6 _ rfl; refine bk ?_; refine blk_put (cs := #[.int .i64 t311, .int .i64 t312, .int .i64 t313, .int .i64 t314, .int .i64 t315, .bool t323, .bool t324]) ?_ 5 _ rfl; refine bk ?_; refine blk_put (cs := #[.int .i64 t311, .int .i64 t312, .int .i64 t313, .int .i64 t314, .int .i64 t322, .bool t323, .bool t324]) ?_ 4 _ rfl; refine bk ?_; refine blk_put (cs := #[.int .i64 t311, .int .i64 t312, .int .i64 t313, .int .i64 t321, .int .i64 t322, .bool t323, .bool t324]) ?_ 3 _ rfl; refine bk ?_; refine blk_put (cs := #[.int .i64 t311, .int .i64 t312, .int .i64 t320, .int .i64 t321, .int .i64 t322, .bool t323, .bool t324]) ?_ 2 _ rfl; refine bk ?_; refine blk_put (cs := #[.int .i64 t311, .int .i64 t319, .int .i64 t320, .int .i64 t321, .int .i64 t322, .bool t323, .bool t324]) ?_ 1 _ rfl; refine bk ?_; refine blk_put (cs := #[.int .i64 t318, .int .i64 t319, .int .i64 t320, .int .i64 t321, .int .i64 t322, .bool t323, .bool t324]) ?_ 0 _ rfl; (iterate 7 refine f1 NB309_308 ?_); refine bk ?_; exact BK309.out⟩, ⟨by (iterate 7 refine f1 NB310_309 ?_); (iterate 7 refine f1 NB310_308 ?_); refine bk ?_; exact BK310.out⟩, ab2_⟩
    ·
     replace c39 := Bool.eq_false_iff.mpr c39; subst c39; rw [if_neg (show ¬ (false = true) by decide)] at H; have H' := Aside0.mk H; clear H; go_wp2; go_meet
     case rel => exact ⟨_, (t311), (t312), (t313), (t314), (t315), (t316), (false), (t318), (t319), (t320), (t321), (t322), (t323), (t324), H', ⟨by have := HJ4.out; first | omega | exact Nat.le_refl _⟩, ⟨bk BK308.out⟩, ⟨bk BK309.out⟩, ⟨bk BK310.out⟩, ab2_⟩
   case rest =>
    clear HC35; (try clear hcz38_0 hcz38_1 hcz38_2 hcz38_3 hcz38_4 hcz38_5 hcz38_6 hfz38_0 hfz38_1 hfz38_2 hfz38_3 hfz38_4 hfz38_5 hfz38_6); obtain ⟨kq, x309000_34, x309001_34, x309002_34, x309003_34, x309004_34, x309005_34, x309006_34, x310000_34, x310001_34, x310002_34, x310003_34, x310004_34, x310005_34, x310006_34, HA, HJ34, BK308, BK309, BK310, HB⟩ := hcut; cases kq with
    | zero => exact absurd HA.out (by simp [span_Join.j1])
    | succ kj34 =>
     have H := HA.out; clear HA; simp only [span_Join.j1] at H; by_cases c45 : x310006_34 = true
     · subst c45; rw [if_pos rfl] at H; simp only [Option.some.injEq, Prod.mk.injEq] at H; obtain ⟨rfl, rfl, rfl, rfl, rfl, rfl, rfl⟩ := H; have hnb46 := NB309_308.out; have hnc46 := NB308_309.out; have hnb47 := NB309_310.out; have hnc47 := NB310_309.out; obtain ⟨hcz48_0, hcz48_1, hcz48_2, hcz48_3, hcz48_4, hcz48_5, hcz48_6⟩ := bc7 BK309.out; obtain ⟨hfz48_0, hfz48_1, hfz48_2, hfz48_3, hfz48_4, hfz48_5, hfz48_6⟩ := bf7 BK309.out; have hnb49 := NB308_310.out; have hnc49 := NB310_308.out; obtain ⟨hcz50_0, hcz50_1, hcz50_2, hcz50_3, hcz50_4, hcz50_5, hcz50_6⟩ := bc7 BK308.out; obtain ⟨hfz50_0, hfz50_1, hfz50_2, hfz50_3, hfz50_4, hfz50_5, hfz50_6⟩ := bf7 BK308.out; obtain ⟨hcz51_0, hcz51_1, hcz51_2, hcz51_3, hcz51_4, hcz51_5, hcz51_6⟩ := bc7 BK310.out; obtain ⟨hfz51_0, hfz51_1, hfz51_2, hfz51_3, hfz51_4, hfz51_5, hfz51_6⟩ := bf7 BK310.out; go_wp2; refine bodyPost_ret (results_cell_row rfl _ _ gb310 25 #[.int .i64 x309000_34, .int .i64 x309001_34, .int .i64 x309002_34, .int .i64 x309003_34, .int .i64 x309004_34, .bool x5_4, .bool x309006_34] (0, 0) _ rfl (by refine bk ?_; refine blk_put (cs := #[.int .i64 x309000_34, .int .i64 x309001_34, .int .i64 x309002_34, .int .i64 x309003_34, .int .i64 x309004_34, .bool x5_4, .bool false]) ?_ 6 _ rfl; refine bk ?_; refine blk_put (cs := #[.int .i64 x309000_34, .int .i64 x309001_34, .int .i64 x309002_34, .int .i64 x309003_34, .int .i64 x309004_34, .bool false, .bool false]) ?_ 5 _ rfl; refine bk ?_; refine blk_put (cs := #[.int .i64 x309000_34, .int .i64 x309001_34, .int .i64 x309002_34, .int .i64 x309003_34, .int .i64 0, .bool false, .bool false]) ?_ 4 _ rfl; refine bk ?_; refine blk_put (cs := #[.int .i64 x309000_34, .int .i64 x309001_34, .int .i64 x309002_34, .int .i64 0, .int .i64 0, .bool false, .bool false]) ?_ 3 _ rfl; refine bk ?_; refine blk_put (cs := #[.int .i64 x309000_34, .int .i64 x309001_34, .int .i64 0, .int .i64 0, .int .i64 0, .bool false, .bool false]) ?_ 2 _ rfl; refine bk ?_; refine blk_put (cs := #[.int .i64 x309000_34, .int .i64 0, .int .i64 0, .int .i64 0, .int .i64 0, .bool false, .bool false]) ?_ 1 _ rfl; refine bk ?_; refine blk_put (cs := #[.int .i64 0, .int .i64 0, .int .i64 0, .int .i64 0, .int .i64 0, .bool false, .bool false]) ?_ 0 _ rfl; refine f1 NB310_308 ?_; refine bk ?_; exact BK310.out) Tryz.underlying25 rfl (by kernel_rfl)) rfl ?_; exact en_
     ·
      replace c45 := Bool.eq_false_iff.mpr c45; subst c45; rw [if_neg (show ¬ (false = true) by decide)] at H; replace H := Option.bind_eq_some_iff.mp H; obtain ⟨t325, A520, H⟩ := H; (try dsimp only at H); have A52 := Aside0.mk A520; clear A520; have HC53 := Aside0.mk H; clear H; have hnb54 := NB309_308.out; have hnc54 := NB308_309.out; have hnb55 := NB309_310.out; have hnc55 := NB310_309.out; obtain ⟨hcz56_0, hcz56_1, hcz56_2, hcz56_3, hcz56_4, hcz56_5, hcz56_6⟩ := bc7 BK309.out; obtain ⟨hfz56_0, hfz56_1, hfz56_2, hfz56_3, hfz56_4, hfz56_5, hfz56_6⟩ := bf7 BK309.out; have hnb57 := NB308_310.out; have hnc57 := NB310_308.out; obtain ⟨hcz58_0, hcz58_1, hcz58_2, hcz58_3, hcz58_4, hcz58_5, hcz58_6⟩ := bc7 BK308.out; obtain ⟨hfz58_0, hfz58_1, hfz58_2, hfz58_3, hfz58_4, hfz58_5, hfz58_6⟩ := bf7 BK308.out; go_upto_region 9 with (first | ((with_reducible refine gate_callee (f := 35) rfl ?_); refine goesL_ (some 30) rfl rfl Tryz.func35 (by kernel_rfl) rfl #[.int .i64 x309004_34, .int .i64 x310004_34] rfl (by (try simp only [mp]); first | done | rfl | (simp only [ld]; rfl)) ?_; (with_reducible refine (span_common.calls kj34 x309004_34 x310004_34 t325 _ A52.out).mono ?_); rintro e w' ⟨rfl, ⟨nd, rfl⟩⟩; refine ⟨_, rfl, ?_⟩; (try (rw [drewN_self wc]; generalize hq_ : World.drewN wc _ = wc; have n0_ : Aside0 (wc.heap[gb308]? = some (.cells #[.int .i64 x309000_34, .int .i64 x309001_34, .int .i64 x309002_34, .int .i64 x309003_34, .int .i64 x309004_34, .bool x309005_34, .bool x309006_34] 25 (0, 0))) := ⟨by rw [← hq_]; exact (bk BK308.out)⟩; have n1_ : Aside0 (wc.heap[gb309]? = some (.cells #[.int .i64 x310000_34, .int .i64 x310001_34, .int .i64 x310002_34, .int .i64 x310003_34, .int .i64 x310004_34, .bool x310005_34, .bool false] 25 (0, 0))) := ⟨by rw [← hq_]; exact (bk BK309.out)⟩; have n2_ : Aside0 (wc.heap[gb310]? = some (.cells #[.int .i64 0, .int .i64 0, .int .i64 0, .int .i64 0, .int .i64 0, .bool false, .bool false] 25 (0, 0))) := ⟨by rw [← hq_]; exact (bk BK310.out)⟩; have n3_ : Aside0 (Below w.heap.size w wc) := ⟨by rw [← hq_]; exact (by repeat first | (with_reducible exact HB.out) | refine bl1 ?_ | (with_reducible refine bset ?_ ‹_›) | exact HB.out)⟩; clear BK308 BK309 BK310 HB hq_; have BK308 := n0_; have BK309 := n1_; have BK310 := n2_; have HB := n3_; clear n0_ n1_ n2_ n3_))) | ((with_reducible refine gate_dst (N := 6) rfl ?_); refine bx_ 6 #[.int .i64 0, .int .i64 0, .int .i64 0, .int .i64 0, .int .i64 0, .bool false, .bool false] 25 ?_; intro gb326 hg w59 BK326 hb; have GE326 := ge_ w hg; have NB308_326 := nlk hg BK308; have NB326_308 := ngk hg BK308; have NB309_326 := nlk hg BK309; have NB326_309 := ngk hg BK309; have NB310_326 := nlk hg BK310; have NB326_310 := ngk hg BK310; replace BK308 := kb BK308 hb; replace BK309 := kb BK309 hb; replace BK310 := kb BK310 hb; replace HB := hb_ w hb; clear hb hg; have hnb60 := NB326_308.out; have hnc60 := NB308_326.out; have hnb61 := NB326_309.out; have hnc61 := NB309_326.out; have hnb62 := NB326_310.out; have hnc62 := NB310_326.out; obtain ⟨hcz63_0, hcz63_1, hcz63_2, hcz63_3, hcz63_4, hcz63_5, hcz63_6⟩ := bc7 BK326.out; obtain ⟨hfz63_0, hfz63_1, hfz63_2, hfz63_3, hfz63_4, hfz63_5, hfz63_6⟩ := bf7 BK326.out)); (try simp only [Act.put, List.setIfInBounds_toArray, List.set_cons_zero, List.set_cons_succ])
      go_cut [40] (fun v40 wc => ∃ (kq : Nat) (x40_52 : Bool), v40 = .bool x40_52 ∧ Aside0 (span_Join.j2 kq x40_52 x309000_34 x309001_34 x309002_34 x309003_34 x309004_34 x309005_34 x309006_34 x310000_34 x310001_34 x310002_34 x310003_34 x310004_34 x310005_34 false 0 0 0 0 t325 x5_4 false = some (r1, r2, r3, r4, r5, r6, r7)) ∧ Aside0 (kq ≤ kj34) ∧ Aside0 (wc.heap[gb308]? = some (.cells #[.int .i64 x309000_34, .int .i64 x309001_34, .int .i64 x309002_34, .int .i64 x309003_34, .int .i64 x309004_34, .bool x309005_34, .bool x309006_34] 25 (0, 0))) ∧ Aside0 (wc.heap[gb309]? = some (.cells #[.int .i64 x310000_34, .int .i64 x310001_34, .int .i64 x310002_34, .int .i64 x310003_34, .int .i64 x310004_34, .bool x310005_34, .bool false] 25 (0, 0))) ∧ Aside0 (wc.heap[gb310]? = some (.cells #[.int .i64 0, .int .i64 0, .int .i64 0, .int .i64 0, .int .i64 0, .bool false, .bool false] 25 (0, 0))) ∧ Aside0 (wc.heap[gb326]? = some (.cells #[.int .i64 0, .int .i64 0, .int .i64 0, .int .i64 0, .int .i64 t325, .bool x5_4, .bool false] 25 (0, 0))) ∧ Aside0 (Below w.heap.size w wc))
      case first =>
       have H := HC53.out; clear HC53; replace H := Option.bind_eq_some_iff.mp H; obtain ⟨t327, A640, H⟩ := H; (try dsimp only at H); have A64 := Aside0.mk A640; clear A640; by_cases c65 : t327 = true
       ·
        subst c65; rw [if_pos rfl] at H; replace H := Option.bind_eq_some_iff.mp H; obtain ⟨t328, A660, H⟩ := H; (try dsimp only at H); have A66 := Aside0.mk A660; clear A660; have H' := Aside0.mk H; clear H; have hnb67 := NB308_309.out; have hnc67 := NB309_308.out; have hnb68 := NB308_310.out; have hnc68 := NB310_308.out; have hnb69 := NB308_326.out; have hnc69 := NB326_308.out; obtain ⟨hcz70_0, hcz70_1, hcz70_2, hcz70_3, hcz70_4, hcz70_5, hcz70_6⟩ := bc7 BK308.out; obtain ⟨hfz70_0, hfz70_1, hfz70_2, hfz70_3, hfz70_4, hfz70_5, hfz70_6⟩ := bf7 BK308.out; go_wp2_with (first | ((with_reducible refine gate_callee (f := 24) rfl ?_); refine goesL_ (some 35) rfl rfl Tryz.func24 (by kernel_rfl) rfl #[.agg #[.int .i64 x309000_34, .int .i64 x309001_34]] rfl (by (try simp only [mp]); first | done | rfl | (simp only [ld]; rfl)) ?_; (with_reducible refine (ratio_Is.calls kj34 x309000_34 x309001_34 true _ A64.out).mono ?_); rintro e w71 ⟨rfl, hb⟩; refine ⟨_, rfl, ?_⟩; replace BK308 := Aside0.mk (blk_below (g := gb308) (o := .cells #[.int .i64 x309000_34, .int .i64 x309001_34, .int .i64 x309002_34, .int .i64 x309003_34, .int .i64 x309004_34, .bool x309005_34, .bool x309006_34] 25 (0, 0)) (by (iterate 7 refine f1 NB308_326 ?_); refine bk ?_; exact BK308.out) hb); replace BK309 := Aside0.mk (blk_below (g := gb309) (o := .cells #[.int .i64 x310000_34, .int .i64 x310001_34, .int .i64 x310002_34, .int .i64 x310003_34, .int .i64 x310004_34, .bool x310005_34, .bool false] 25 (0, 0)) (by (iterate 7 refine f1 NB309_326 ?_); refine bk ?_; exact BK309.out) hb); replace BK310 := Aside0.mk (blk_below (g := gb310) (o := .cells #[.int .i64 0, .int .i64 0, .int .i64 0, .int .i64 0, .int .i64 0, .bool false, .bool false] 25 (0, 0)) (by (iterate 7 refine f1 NB310_326 ?_); refine bk ?_; exact BK310.out) hb); replace BK326 := Aside0.mk (blk_below (g := gb326) (o := .cells #[.int .i64 0, .int .i64 0, .int .i64 0, .int .i64 0, .int .i64 t325, .bool x5_4, .bool false] 25 (0, 0)) (by exact rq BK326.out (by rfl)) hb); replace HB := hb_ w hb; have hnb72 := NB309_310.out; have hnc72 := NB310_309.out; have hnb73 := NB309_326.out; have hnc73 := NB326_309.out; obtain ⟨hcz74_0, hcz74_1, hcz74_2, hcz74_3, hcz74_4, hcz74_5, hcz74_6⟩ := bc7 BK309.out; obtain ⟨hfz74_0, hfz74_1, hfz74_2, hfz74_3, hfz74_4, hfz74_5, hfz74_6⟩ := bf7 BK309.out) | (go_at_call 24; (with_reducible refine (ratio_Is.calls kj34 x310000_34 x310001_34 t328 _ A66.out).mono ?_); rintro e w75 ⟨rfl, hb⟩; replace BK308 := kb BK308 hb; replace BK309 := kb BK309 hb; replace BK310 := kb BK310 hb; replace BK326 := kb BK326 hb; replace HB := hb_ w hb; )); go_meet
        case rel => exact ⟨_, (t328), (by first | rfl | (simp; done) | (simp [*]; done)), H', ⟨by have := HJ4.out; have := HJ34.out; first | omega | exact Nat.le_refl _⟩, ⟨bk BK308.out⟩, ⟨bk BK309.out⟩, ⟨bk BK310.out⟩, ⟨bk BK326.out⟩, ab2_⟩
       ·
        replace c65 := Bool.eq_false_iff.mpr c65; subst c65; rw [if_neg (show ¬ (false = true) by decide)] at H; have H' := Aside0.mk H; clear H; have hnb76 := NB308_309.out; have hnc76 := NB309_308.out; have hnb77 := NB308_310.out; have hnc77 := NB310_308.out; have hnb78 := NB308_326.out; have hnc78 := NB326_308.out; obtain ⟨hcz79_0, hcz79_1, hcz79_2, hcz79_3, hcz79_4, hcz79_5, hcz79_6⟩ := bc7 BK308.out; obtain ⟨hfz79_0, hfz79_1, hfz79_2, hfz79_3, hfz79_4, hfz79_5, hfz79_6⟩ := bf7 BK308.out; go_wp2_with (first | ((with_reducible refine gate_callee (f := 24) rfl ?_); refine goesL_ (some 35) rfl rfl Tryz.func24 (by kernel_rfl) rfl #[.agg #[.int .i64 x309000_34, .int .i64 x309001_34]] rfl (by (try simp only [mp]); first | done | rfl | (simp only [ld]; rfl)) ?_; (with_reducible refine (ratio_Is.calls kj34 x309000_34 x309001_34 false _ A64.out).mono ?_); rintro e w80 ⟨rfl, hb⟩; refine ⟨_, rfl, ?_⟩; replace BK308 := Aside0.mk (blk_below (g := gb308) (o := .cells #[.int .i64 x309000_34, .int .i64 x309001_34, .int .i64 x309002_34, .int .i64 x309003_34, .int .i64 x309004_34, .bool x309005_34, .bool x309006_34] 25 (0, 0)) (by (iterate 7 refine f1 NB308_326 ?_); refine bk ?_; exact BK308.out) hb); replace BK309 := Aside0.mk (blk_below (g := gb309) (o := .cells #[.int .i64 x310000_34, .int .i64 x310001_34, .int .i64 x310002_34, .int .i64 x310003_34, .int .i64 x310004_34, .bool x310005_34, .bool false] 25 (0, 0)) (by (iterate 7 refine f1 NB309_326 ?_); refine bk ?_; exact BK309.out) hb); replace BK310 := Aside0.mk (blk_below (g := gb310) (o := .cells #[.int .i64 0, .int .i64 0, .int .i64 0, .int .i64 0, .int .i64 0, .bool false, .bool false] 25 (0, 0)) (by (iterate 7 refine f1 NB310_326 ?_); refine bk ?_; exact BK310.out) hb); replace BK326 := Aside0.mk (blk_below (g := gb326) (o := .cells #[.int .i64 0, .int .i64 0, .int .i64 0, .int .i64 0, .int .i64 t325, .bool x5_4, .bool false] 25 (0, 0)) (by exact rq BK326.out (by rfl)) hb); replace HB := hb_ w hb; )); go_meet
        case rel => exact ⟨_, (false), (by first | rfl | (simp; done) | (simp [*]; done)), H', ⟨by have := HJ4.out; have := HJ34.out; first | omega | exact Nat.le_refl _⟩, ⟨bk BK308.out⟩, ⟨bk BK309.out⟩, ⟨bk BK310.out⟩, ⟨bk BK326.out⟩, ab2_⟩
      case rest =>
       clear HC53; (try clear c45); (try clear hcz56_0 hcz56_1 hcz56_2 hcz56_3 hcz56_4 hcz56_5 hcz56_6); (try clear hcz58_0 hcz58_1 hcz58_2 hcz58_3 hcz58_4 hcz58_5 hcz58_6); (try clear hcz63_0 hcz63_1 hcz63_2 hcz63_3 hcz63_4 hcz63_5 hcz63_6); (try clear hfz56_0 hfz56_1 hfz56_2 hfz56_3 hfz56_4 hfz56_5 hfz56_6); (try clear hfz58_0 hfz58_1 hfz58_2 hfz58_3 hfz58_4 hfz58_5 hfz58_6); (try clear hfz63_0 hfz63_1 hfz63_2 hfz63_3 hfz63_4 hfz63_5 hfz63_6); obtain ⟨kq, x40_52, rfl, HA, HJ52, BK308, BK309, BK310, BK326, HB⟩ := hcut; cases kq with
       | zero => exact absurd HA.out (by simp [span_Join.j2])
       | succ kj52 =>
        have H := HA.out; clear HA; simp only [span_Join.j2] at H; have HC81 := Aside0.mk H; clear H; go_upto_if 40 with (fail)
        go_cut [] (fun wc => ∃ (kq : Nat) (x327000_80 : Int) (x327001_80 : Int), Aside0 (span_Join.j3 kq x309000_34 x309001_34 x309002_34 x309003_34 x309004_34 x309005_34 x309006_34 x310000_34 x310001_34 x310002_34 x310003_34 x310004_34 x310005_34 false x327000_80 x327001_80 0 0 t325 x5_4 false = some (r1, r2, r3, r4, r5, r6, r7)) ∧ Aside0 (kq ≤ kj52) ∧ Aside0 (wc.heap[gb308]? = some (.cells #[.int .i64 x309000_34, .int .i64 x309001_34, .int .i64 x309002_34, .int .i64 x309003_34, .int .i64 x309004_34, .bool x309005_34, .bool x309006_34] 25 (0, 0))) ∧ Aside0 (wc.heap[gb309]? = some (.cells #[.int .i64 x310000_34, .int .i64 x310001_34, .int .i64 x310002_34, .int .i64 x310003_34, .int .i64 x310004_34, .bool x310005_34, .bool false] 25 (0, 0))) ∧ Aside0 (wc.heap[gb310]? = some (.cells #[.int .i64 0, .int .i64 0, .int .i64 0, .int .i64 0, .int .i64 0, .bool false, .bool false] 25 (0, 0))) ∧ Aside0 (wc.heap[gb326]? = some (.cells #[.int .i64 x327000_80, .int .i64 x327001_80, .int .i64 0, .int .i64 0, .int .i64 t325, .bool x5_4, .bool false] 25 (0, 0))) ∧ Aside0 (Below w.heap.size w wc))
        case first =>
         have H := HC81.out; clear HC81; by_cases c82 : x40_52 = true
         ·
          subst c82; rw [if_pos rfl] at H; replace H := Option.bind_eq_some_iff.mp H; obtain ⟨⟨t329, t330⟩, A830, H⟩ := H; (try dsimp only at H); have A83 := Aside0.mk A830; clear A830; have H' := Aside0.mk H; clear H; have hnb84 := NB308_309.out; have hnc84 := NB309_308.out; have hnb85 := NB308_310.out; have hnc85 := NB310_308.out; have hnb86 := NB308_326.out; have hnc86 := NB326_308.out; obtain ⟨hcz87_0, hcz87_1, hcz87_2, hcz87_3, hcz87_4, hcz87_5, hcz87_6⟩ := bc7 BK308.out; obtain ⟨hfz87_0, hfz87_1, hfz87_2, hfz87_3, hfz87_4, hfz87_5, hfz87_6⟩ := bf7 BK308.out; have hnb88 := NB309_310.out; have hnc88 := NB310_309.out; have hnb89 := NB309_326.out; have hnc89 := NB326_309.out; obtain ⟨hcz90_0, hcz90_1, hcz90_2, hcz90_3, hcz90_4, hcz90_5, hcz90_6⟩ := bc7 BK309.out; obtain ⟨hfz90_0, hfz90_1, hfz90_2, hfz90_3, hfz90_4, hfz90_5, hfz90_6⟩ := bf7 BK309.out; go_wp2_with (first | ((with_reducible refine gate_callee (f := 36) rfl ?_); refine goesL_ (some 45) rfl rfl Tryz.func36 (by kernel_rfl) rfl #[.agg #[.int .i64 x309000_34, .int .i64 x309001_34], .agg #[.int .i64 x310000_34, .int .i64 x310001_34]] rfl (by (try simp only [mp]); first | done | rfl | (simp only [ld]; rfl)) ?_; (with_reducible refine (ratio_Min.calls kj52 x309000_34 x309001_34 x310000_34 x310001_34 t329 t330 _ A83.out).mono ?_); rintro e w91 ⟨rfl, hb⟩; refine ⟨_, rfl, ?_⟩; replace BK308 := kb BK308 hb; replace BK309 := kb BK309 hb; replace BK310 := kb BK310 hb; replace BK326 := kb BK326 hb; replace HB := hb_ w hb; have hnb92 := NB326_310.out; have hnc92 := NB310_326.out; obtain ⟨hcz93_0, hcz93_1, hcz93_2, hcz93_3, hcz93_4, hcz93_5, hcz93_6⟩ := bc7 BK326.out; obtain ⟨hfz93_0, hfz93_1, hfz93_2, hfz93_3, hfz93_4, hfz93_5, hfz93_6⟩ := bf7 BK326.out)); go_meet
          case rel => exact ⟨_, (t329), (t330), H', ⟨by have := HJ4.out; have := HJ34.out; have := HJ52.out; first | omega | exact Nat.le_refl _⟩, ⟨by refine f1 NB308_326 ?_; refine f1 NB308_326 ?_; refine bk ?_; exact BK308.out⟩, ⟨by refine f1 NB309_326 ?_; refine f1 NB309_326 ?_; refine bk ?_; exact BK309.out⟩, ⟨by refine f1 NB310_326 ?_; refine f1 NB310_326 ?_; refine bk ?_; exact BK310.out⟩, ⟨by exact rq BK326.out (by rfl)⟩, ab2_⟩
         ·
          replace c82 := Bool.eq_false_iff.mpr c82; subst c82; rw [if_neg (show ¬ (false = true) by decide)] at H; have H' := Aside0.mk H; clear H; go_wp2; go_meet
          case rel => exact ⟨_, (0), (0), H', ⟨by have := HJ4.out; have := HJ34.out; have := HJ52.out; first | omega | exact Nat.le_refl _⟩, ⟨bk BK308.out⟩, ⟨bk BK309.out⟩, ⟨bk BK310.out⟩, ⟨bk BK326.out⟩, ab2_⟩
        case rest =>
         clear HC81; obtain ⟨kq, x327000_80, x327001_80, HA, HJ80, BK308, BK309, BK310, BK326, HB⟩ := hcut; cases kq with
         | zero => exact absurd HA.out (by simp [span_Join.j3])
         | succ kj80 =>
          have H := HA.out; clear HA; simp only [span_Join.j3] at H; replace H := Option.bind_eq_some_iff.mp H; obtain ⟨t331, A940, H⟩ := H; (try dsimp only at H); have A94 := Aside0.mk A940; clear A940; by_cases c95 : t331 = true
          ·
           subst c95; rw [if_pos rfl] at H; replace H := Option.bind_eq_some_iff.mp H; obtain ⟨t332, A960, H⟩ := H; (try dsimp only at H); have A96 := Aside0.mk A960; clear A960; by_cases c97 : t332 = true
           · subst c97; rw [if_pos rfl] at H; replace H := Option.bind_eq_some_iff.mp H; obtain ⟨⟨t333, t334⟩, A980, H⟩ := H; (try dsimp only at H); have A98 := Aside0.mk A980; clear A980; simp only [Option.some.injEq, Prod.mk.injEq] at H; obtain ⟨rfl, rfl, rfl, rfl, rfl, rfl, rfl⟩ := H; have hnb99 := NB308_309.out; have hnc99 := NB309_308.out; have hnb100 := NB308_310.out; have hnc100 := NB310_308.out; have hnb101 := NB308_326.out; have hnc101 := NB326_308.out; obtain ⟨hcz102_0, hcz102_1, hcz102_2, hcz102_3, hcz102_4, hcz102_5, hcz102_6⟩ := bc7 BK308.out; obtain ⟨hfz102_0, hfz102_1, hfz102_2, hfz102_3, hfz102_4, hfz102_5, hfz102_6⟩ := bf7 BK308.out; go_wp2_with (first | ((with_reducible refine gate_callee (f := 24) rfl ?_); refine goesL_ (some 49) rfl rfl Tryz.func24 (by kernel_rfl) rfl #[.agg #[.int .i64 x309002_34, .int .i64 x309003_34]] rfl (by (try simp only [mp]); first | done | rfl | (simp only [ld]; rfl)) ?_; (with_reducible refine (ratio_Is.calls kj80 x309002_34 x309003_34 true _ A94.out).mono ?_); rintro e w103 ⟨rfl, hb⟩; refine ⟨_, rfl, ?_⟩; replace BK308 := kb BK308 hb; replace BK309 := kb BK309 hb; replace BK310 := kb BK310 hb; replace BK326 := kb BK326 hb; replace HB := hb_ w hb; have hnb104 := NB309_310.out; have hnc104 := NB310_309.out; have hnb105 := NB309_326.out; have hnc105 := NB326_309.out; obtain ⟨hcz106_0, hcz106_1, hcz106_2, hcz106_3, hcz106_4, hcz106_5, hcz106_6⟩ := bc7 BK309.out; obtain ⟨hfz106_0, hfz106_1, hfz106_2, hfz106_3, hfz106_4, hfz106_5, hfz106_6⟩ := bf7 BK309.out) | (go_at_call 24; (with_reducible refine (ratio_Is.calls kj80 x310002_34 x310003_34 true _ A96.out).mono ?_); rintro e w107 ⟨rfl, hb⟩; replace BK308 := kb BK308 hb; replace BK309 := kb BK309 hb; replace BK310 := kb BK310 hb; replace BK326 := kb BK326 hb; replace HB := hb_ w hb; obtain ⟨hcz108_0, hcz108_1, hcz108_2, hcz108_3, hcz108_4, hcz108_5, hcz108_6⟩ := bc7 BK308.out; obtain ⟨hfz108_0, hfz108_1, hfz108_2, hfz108_3, hfz108_4, hfz108_5, hfz108_6⟩ := bf7 BK308.out; obtain ⟨hcz109_0, hcz109_1, hcz109_2, hcz109_3, hcz109_4, hcz109_5, hcz109_6⟩ := bc7 BK309.out; obtain ⟨hfz109_0, hfz109_1, hfz109_2, hfz109_3, hfz109_4, hfz109_5, hfz109_6⟩ := bf7 BK309.out) | ((with_reducible refine gate_callee (f := 37) rfl ?_); refine goesL_ (some 59) rfl rfl Tryz.func37 (by kernel_rfl) rfl #[.agg #[.int .i64 x309002_34, .int .i64 x309003_34], .agg #[.int .i64 x310002_34, .int .i64 x310003_34]] rfl (by (try simp only [mp]); first | done | rfl | (simp only [ld]; rfl)) ?_; (with_reducible refine (ratio_Max.calls kj80 x309002_34 x309003_34 x310002_34 x310003_34 t333 t334 _ A98.out).mono ?_); rintro e w110 ⟨rfl, hb⟩; refine ⟨_, rfl, ?_⟩; replace BK308 := kb BK308 hb; replace BK309 := kb BK309 hb; replace BK310 := kb BK310 hb; replace BK326 := kb BK326 hb; replace HB := hb_ w hb; have hnb111 := NB326_310.out; have hnc111 := NB310_326.out; obtain ⟨hcz112_0, hcz112_1, hcz112_2, hcz112_3, hcz112_4, hcz112_5, hcz112_6⟩ := bc7 BK326.out; obtain ⟨hfz112_0, hfz112_1, hfz112_2, hfz112_3, hfz112_4, hfz112_5, hfz112_6⟩ := bf7 BK326.out; obtain ⟨hcz113_0, hcz113_1, hcz113_2, hcz113_3, hcz113_4, hcz113_5, hcz113_6⟩ := bc7 BK310.out; obtain ⟨hfz113_0, hfz113_1, hfz113_2, hfz113_3, hfz113_4, hfz113_5, hfz113_6⟩ := bf7 BK310.out)); refine bodyPost_ret (results_cell_row rfl _ _ gb310 25 #[.int .i64 x327000_80, .int .i64 x327001_80, .int .i64 t333, .int .i64 t334, .int .i64 t325, .bool x5_4, .bool false] (0, 0) _ rfl (by refine bk ?_; refine blk_put (cs := #[.int .i64 x327000_80, .int .i64 x327001_80, .int .i64 t333, .int .i64 t334, .int .i64 t325, .bool x5_4, .bool false]) ?_ 6 _ rfl; refine bk ?_; refine blk_put (cs := #[.int .i64 x327000_80, .int .i64 x327001_80, .int .i64 t333, .int .i64 t334, .int .i64 t325, .bool false, .bool false]) ?_ 5 _ rfl; refine bk ?_; refine blk_put (cs := #[.int .i64 x327000_80, .int .i64 x327001_80, .int .i64 t333, .int .i64 t334, .int .i64 0, .bool false, .bool false]) ?_ 4 _ rfl; refine bk ?_; refine blk_put (cs := #[.int .i64 x327000_80, .int .i64 x327001_80, .int .i64 t333, .int .i64 0, .int .i64 0, .bool false, .bool false]) ?_ 3 _ rfl; refine bk ?_; refine blk_put (cs := #[.int .i64 x327000_80, .int .i64 x327001_80, .int .i64 0, .int .i64 0, .int .i64 0, .bool false, .bool false]) ?_ 2 _ rfl; refine bk ?_; refine blk_put (cs := #[.int .i64 x327000_80, .int .i64 0, .int .i64 0, .int .i64 0, .int .i64 0, .bool false, .bool false]) ?_ 1 _ rfl; refine bk ?_; refine blk_put (cs := #[.int .i64 0, .int .i64 0, .int .i64 0, .int .i64 0, .int .i64 0, .bool false, .bool false]) ?_ 0 _ rfl; refine f1 NB310_326 ?_; refine f1 NB310_326 ?_; refine bk ?_; exact BK310.out) Tryz.underlying25 rfl (by kernel_rfl)) rfl ?_; exact en_
           · replace c97 := Bool.eq_false_iff.mpr c97; subst c97; rw [if_neg (show ¬ (false = true) by decide)] at H; simp only [Option.some.injEq, Prod.mk.injEq] at H; obtain ⟨rfl, rfl, rfl, rfl, rfl, rfl, rfl⟩ := H; have hnb114 := NB308_309.out; have hnc114 := NB309_308.out; have hnb115 := NB308_310.out; have hnc115 := NB310_308.out; have hnb116 := NB308_326.out; have hnc116 := NB326_308.out; obtain ⟨hcz117_0, hcz117_1, hcz117_2, hcz117_3, hcz117_4, hcz117_5, hcz117_6⟩ := bc7 BK308.out; obtain ⟨hfz117_0, hfz117_1, hfz117_2, hfz117_3, hfz117_4, hfz117_5, hfz117_6⟩ := bf7 BK308.out; go_wp2_with (first | ((with_reducible refine gate_callee (f := 24) rfl ?_); refine goesL_ (some 49) rfl rfl Tryz.func24 (by kernel_rfl) rfl #[.agg #[.int .i64 x309002_34, .int .i64 x309003_34]] rfl (by (try simp only [mp]); first | done | rfl | (simp only [ld]; rfl)) ?_; (with_reducible refine (ratio_Is.calls kj80 x309002_34 x309003_34 true _ A94.out).mono ?_); rintro e w118 ⟨rfl, hb⟩; refine ⟨_, rfl, ?_⟩; replace BK308 := kb BK308 hb; replace BK309 := kb BK309 hb; replace BK310 := kb BK310 hb; replace BK326 := kb BK326 hb; replace HB := hb_ w hb; have hnb119 := NB309_310.out; have hnc119 := NB310_309.out; have hnb120 := NB309_326.out; have hnc120 := NB326_309.out; obtain ⟨hcz121_0, hcz121_1, hcz121_2, hcz121_3, hcz121_4, hcz121_5, hcz121_6⟩ := bc7 BK309.out; obtain ⟨hfz121_0, hfz121_1, hfz121_2, hfz121_3, hfz121_4, hfz121_5, hfz121_6⟩ := bf7 BK309.out) | (go_at_call 24; (with_reducible refine (ratio_Is.calls kj80 x310002_34 x310003_34 false _ A96.out).mono ?_); rintro e w122 ⟨rfl, hb⟩; replace BK308 := kb BK308 hb; replace BK309 := kb BK309 hb; replace BK310 := kb BK310 hb; replace BK326 := kb BK326 hb; replace HB := hb_ w hb; have hnb123 := NB326_310.out; have hnc123 := NB310_326.out; obtain ⟨hcz124_0, hcz124_1, hcz124_2, hcz124_3, hcz124_4, hcz124_5, hcz124_6⟩ := bc7 BK326.out; obtain ⟨hfz124_0, hfz124_1, hfz124_2, hfz124_3, hfz124_4, hfz124_5, hfz124_6⟩ := bf7 BK326.out; obtain ⟨hcz125_0, hcz125_1, hcz125_2, hcz125_3, hcz125_4, hcz125_5, hcz125_6⟩ := bc7 BK310.out; obtain ⟨hfz125_0, hfz125_1, hfz125_2, hfz125_3, hfz125_4, hfz125_5, hfz125_6⟩ := bf7 BK310.out)); refine bodyPost_ret (results_cell_row rfl _ _ gb310 25 #[.int .i64 x327000_80, .int .i64 x327001_80, .int .i64 0, .int .i64 0, .int .i64 t325, .bool x5_4, .bool false] (0, 0) _ rfl (by exact rq BK310.out (by rfl)) Tryz.underlying25 rfl (by kernel_rfl)) rfl ?_; exact en_
          · replace c95 := Bool.eq_false_iff.mpr c95; subst c95; rw [if_neg (show ¬ (false = true) by decide)] at H; simp only [Option.some.injEq, Prod.mk.injEq] at H; obtain ⟨rfl, rfl, rfl, rfl, rfl, rfl, rfl⟩ := H; have hnb126 := NB308_309.out; have hnc126 := NB309_308.out; have hnb127 := NB308_310.out; have hnc127 := NB310_308.out; have hnb128 := NB308_326.out; have hnc128 := NB326_308.out; obtain ⟨hcz129_0, hcz129_1, hcz129_2, hcz129_3, hcz129_4, hcz129_5, hcz129_6⟩ := bc7 BK308.out; obtain ⟨hfz129_0, hfz129_1, hfz129_2, hfz129_3, hfz129_4, hfz129_5, hfz129_6⟩ := bf7 BK308.out; go_wp2_with (first | ((with_reducible refine gate_callee (f := 24) rfl ?_); refine goesL_ (some 49) rfl rfl Tryz.func24 (by kernel_rfl) rfl #[.agg #[.int .i64 x309002_34, .int .i64 x309003_34]] rfl (by (try simp only [mp]); first | done | rfl | (simp only [ld]; rfl)) ?_; (with_reducible refine (ratio_Is.calls kj80 x309002_34 x309003_34 false _ A94.out).mono ?_); rintro e w130 ⟨rfl, hb⟩; refine ⟨_, rfl, ?_⟩; replace BK308 := kb BK308 hb; replace BK309 := kb BK309 hb; replace BK310 := kb BK310 hb; replace BK326 := kb BK326 hb; replace HB := hb_ w hb; have hnb131 := NB326_309.out; have hnc131 := NB309_326.out; have hnb132 := NB326_310.out; have hnc132 := NB310_326.out; obtain ⟨hcz133_0, hcz133_1, hcz133_2, hcz133_3, hcz133_4, hcz133_5, hcz133_6⟩ := bc7 BK326.out; obtain ⟨hfz133_0, hfz133_1, hfz133_2, hfz133_3, hfz133_4, hfz133_5, hfz133_6⟩ := bf7 BK326.out; have hnb134 := NB310_309.out; have hnc134 := NB309_310.out; obtain ⟨hcz135_0, hcz135_1, hcz135_2, hcz135_3, hcz135_4, hcz135_5, hcz135_6⟩ := bc7 BK310.out; obtain ⟨hfz135_0, hfz135_1, hfz135_2, hfz135_3, hfz135_4, hfz135_5, hfz135_6⟩ := bf7 BK310.out)); refine bodyPost_ret (results_cell_row rfl _ _ gb310 25 #[.int .i64 x327000_80, .int .i64 x327001_80, .int .i64 0, .int .i64 0, .int .i64 t325, .bool x5_4, .bool false] (0, 0) _ rfl (by exact rq BK310.out (by rfl)) Tryz.underlying25 rfl (by kernel_rfl)) rfl ?_; exact en_
def serinetteref01_both.f (k : Nat) (a0_0 : Int) (a0_1 : Int) (a1_0 : Int) (a1_1 : Int) : Option (Bool) := (serinetteref01_Is.f k a0_0 a0_1).bind fun t337 => (if t337 = true then ((serinetteref01_Is.f k a1_0 a1_1).bind fun t338 => (some t338)) else (some false))
theorem serinetteref01_both.mono : ∀ a0 a1 a2 a3 k, LeO (serinetteref01_both.f k a0 a1 a2 a3) (serinetteref01_both.f (k + 1) a0 a1 a2 a3) := by
 intro a0 a1 a2 a3 k
 unfold serinetteref01_both.f
 repeat' first
   | (with_reducible exact serinetteref01_Is.mono _ _ _)
   | (with_reducible exact LeO.refl _)
   | (with_reducible exact LeO.none _)
   | (with_reducible refine LeO.ite ?_ ?_)
   | (with_reducible refine LeO.bind ?_ (fun _ => ?_))
   | exact serinetteref01_Is.mono _ _ _
   | exact LeO.none _
   | refine LeO.ite ?_ ?_
   | refine LeO.bind ?_ (fun _ => ?_)
set_option maxHeartbeats 8000000 in
set_option maxRecDepth 100000 in
theorem serinetteref01_both.calls (k : Nat) (a0_0 : Int) (a0_1 : Int) (a1_0 : Int) (a1_1 : Int) (r : Bool) (w : World) (h : serinetteref01_both.f k a0_0 a0_1 a1_0 a1_1 = some r) :
  Calls Tryz.prog 67 #[.agg #[.int .i64 a0_0, .int .i64 a0_1], .agg #[.int .i64 a1_0, .int .i64 a1_1]] w fun e w' => e = .returned (.bool r) ∧ Below w.heap.size w w' := by
 have hu23 := Tryz.underlying23; have HB := Aside0.mk (Below.refl w.heap.size w); have H : ((serinetteref01_Is.f k a0_0 a0_1).bind fun t337 => (if t337 = true then ((serinetteref01_Is.f k a1_0 a1_1).bind fun t338 => (some t338)) else (some false))) = some r := h; clear h; replace H := Option.bind_eq_some_iff.mp H; obtain ⟨t337, A30, H⟩ := H; (try dsimp only at H); have A3 := Aside0.mk A30; clear A30; by_cases c4 : t337 = true
 · subst c4; rw [if_pos rfl] at H; replace H := Option.bind_eq_some_iff.mp H; obtain ⟨t338, A50, H⟩ := H; (try dsimp only at H); have A5 := Aside0.mk A50; clear A50; obtain rfl := Option.some.inj H; go_enter Tryz.func67, Tryz.ntmps67; go_wp2_with (first | ((with_reducible refine gate_dst (N := 2) rfl ?_); refine bx_ 2 #[.int .i64 a0_0, .int .i64 a0_1] 23 ?_; intro gb335 hg w6 BK335 hb; have GE335 := hz_ hg HB; replace HB := hs HB hb; clear hb hg) | ((with_reducible refine gate_dst (N := 3) rfl ?_); refine bx_ 3 #[.int .i64 a1_0, .int .i64 a1_1] 23 ?_; intro gb336 hg w7 BK336 hb; have GE336 := ge_ w hg; have NB335_336 := nlk hg BK335; have NB336_335 := ngk hg BK335; replace BK335 := kb BK335 hb; replace HB := hb_ w hb; clear hb hg; have hnb8 := NB335_336.out; have hnc8 := NB336_335.out; obtain ⟨hcz9_0, hcz9_1⟩ := bc2 BK335.out; obtain ⟨hfz9_0, hfz9_1⟩ := bf2 BK335.out) | ((with_reducible refine gate_callee (f := 28) rfl ?_); refine goesL_ (some 6) rfl rfl Tryz.func28 (by kernel_rfl) rfl #[.agg #[.int .i64 a0_0, .int .i64 a0_1]] rfl (by (try simp only [mp]); first | done | rfl | (simp only [ld]; rfl)) ?_; (with_reducible refine (serinetteref01_Is.calls k a0_0 a0_1 true _ A3.out).mono ?_); rintro e w10 ⟨rfl, hb⟩; refine ⟨_, rfl, ?_⟩; replace BK335 := kb BK335 hb; replace BK336 := kb BK336 hb; replace HB := hb_ w hb; obtain ⟨hcz11_0, hcz11_1⟩ := bc2 BK336.out; obtain ⟨hfz11_0, hfz11_1⟩ := bf2 BK336.out) | (go_at_call 28; (with_reducible refine (serinetteref01_Is.calls k a1_0 a1_1 t338 _ A5.out).mono ?_); rintro e w12 ⟨rfl, hb⟩; replace BK335 := kb BK335 hb; replace BK336 := kb BK336 hb; replace HB := hb_ w hb; )); go_ret; exact en_
 · replace c4 := Bool.eq_false_iff.mpr c4; subst c4; rw [if_neg (show ¬ (false = true) by decide)] at H; obtain rfl := Option.some.inj H; go_enter Tryz.func67, Tryz.ntmps67; go_wp2_with (first | ((with_reducible refine gate_dst (N := 2) rfl ?_); refine bx_ 2 #[.int .i64 a0_0, .int .i64 a0_1] 23 ?_; intro gb335 hg w13 BK335 hb; have GE335 := hz_ hg HB; replace HB := hs HB hb; clear hb hg) | ((with_reducible refine gate_dst (N := 3) rfl ?_); refine bx_ 3 #[.int .i64 a1_0, .int .i64 a1_1] 23 ?_; intro gb336 hg w14 BK336 hb; have GE336 := ge_ w hg; have NB335_336 := nlk hg BK335; have NB336_335 := ngk hg BK335; replace BK335 := kb BK335 hb; replace HB := hb_ w hb; clear hb hg; have hnb15 := NB335_336.out; have hnc15 := NB336_335.out; obtain ⟨hcz16_0, hcz16_1⟩ := bc2 BK335.out; obtain ⟨hfz16_0, hfz16_1⟩ := bf2 BK335.out) | ((with_reducible refine gate_callee (f := 28) rfl ?_); refine goesL_ (some 6) rfl rfl Tryz.func28 (by kernel_rfl) rfl #[.agg #[.int .i64 a0_0, .int .i64 a0_1]] rfl (by (try simp only [mp]); first | done | rfl | (simp only [ld]; rfl)) ?_; (with_reducible refine (serinetteref01_Is.calls k a0_0 a0_1 false _ A3.out).mono ?_); rintro e w17 ⟨rfl, hb⟩; refine ⟨_, rfl, ?_⟩; replace BK335 := kb BK335 hb; replace BK336 := kb BK336 hb; replace HB := hb_ w hb; )); go_ret; exact en_
def serinetteref01_Min.f (k : Nat) (a0_0 : Int) (a0_1 : Int) (a1_0 : Int) (a1_1 : Int) : Option (Int × Int) := (serinetteref01_both.f k a0_0 a0_1 a1_0 a1_1).bind fun t342 => (if t342 = true then ((serinetteref01_Cmp.f k a0_0 a0_1 a1_0 a1_1).bind fun t343 => (if t343 ≤ 0 then (some (a0_0, a0_1)) else (some (a1_0, a1_1)))) else ((serinetteref01_None.f).bind fun bt344 => (some (bt344.1, bt344.2))))
theorem serinetteref01_Min.mono : ∀ a0 a1 a2 a3 k, LeO (serinetteref01_Min.f k a0 a1 a2 a3) (serinetteref01_Min.f (k + 1) a0 a1 a2 a3) := by
 intro a0 a1 a2 a3 k
 unfold serinetteref01_Min.f
 repeat' first
   | (with_reducible exact serinetteref01_Cmp.mono _ _ _ _ _)
   | (with_reducible exact serinetteref01_both.mono _ _ _ _ _)
   | (with_reducible exact LeO.refl _)
   | (with_reducible exact LeO.none _)
   | (with_reducible refine LeO.ite ?_ ?_)
   | (with_reducible refine LeO.bind ?_ (fun _ => ?_))
   | exact serinetteref01_Cmp.mono _ _ _ _ _
   | exact serinetteref01_both.mono _ _ _ _ _
   | exact LeO.none _
   | refine LeO.ite ?_ ?_
   | refine LeO.bind ?_ (fun _ => ?_)
set_option maxHeartbeats 8000000 in
set_option maxRecDepth 100000 in
theorem serinetteref01_Min.calls (k : Nat) (a0_0 : Int) (a0_1 : Int) (a1_0 : Int) (a1_1 : Int) (r1 : Int) (r2 : Int) (w : World) (h : serinetteref01_Min.f k a0_0 a0_1 a1_0 a1_1 = some (r1, r2)) :
  Calls Tryz.prog 55 #[.agg #[.int .i64 a0_0, .int .i64 a0_1], .agg #[.int .i64 a1_0, .int .i64 a1_1]] w fun e w' => e = .returned (.agg #[.int .i64 r1, .int .i64 r2]) ∧ Below w.heap.size w w' := by
 have hu23 := Tryz.underlying23; have HB := Aside0.mk (Below.refl w.heap.size w); have H : ((serinetteref01_both.f k a0_0 a0_1 a1_0 a1_1).bind fun t342 => (if t342 = true then ((serinetteref01_Cmp.f k a0_0 a0_1 a1_0 a1_1).bind fun t343 => (if t343 ≤ 0 then (some (a0_0, a0_1)) else (some (a1_0, a1_1)))) else ((serinetteref01_None.f).bind fun bt344 => (some (bt344.1, bt344.2))))) = some (r1, r2) := h; clear h; replace H := Option.bind_eq_some_iff.mp H; obtain ⟨t342, A30, H⟩ := H; (try dsimp only at H); have A3 := Aside0.mk A30; clear A30; by_cases c4 : t342 = true
 ·
  subst c4; rw [if_pos rfl] at H; replace H := Option.bind_eq_some_iff.mp H; obtain ⟨t343, A50, H⟩ := H; (try dsimp only at H); have A5 := Aside0.mk A50; clear A50; by_cases c6 : t343 ≤ 0
  · rw [if_pos c6] at H; have c6b0 : decide (t343 ≤ 0) = true := decide_eq_true c6; clear c6; simp only [Option.some.injEq, Prod.mk.injEq] at H; obtain ⟨rfl, rfl⟩ := H; go_enter Tryz.func55, Tryz.ntmps55; go_wp2_with (first | ((with_reducible refine gate_dst (N := 2) rfl ?_); refine bx_ 2 #[.int .i64 a0_0, .int .i64 a0_1] 23 ?_; intro gb339 hg w7 BK339 hb; have GE339 := hz_ hg HB; replace HB := hs HB hb; clear hb hg) | ((with_reducible refine gate_dst (N := 3) rfl ?_); refine bx_ 3 #[.int .i64 a1_0, .int .i64 a1_1] 23 ?_; intro gb340 hg w8 BK340 hb; have GE340 := ge_ w hg; have NB339_340 := nlk hg BK339; have NB340_339 := ngk hg BK339; replace BK339 := kb BK339 hb; replace HB := hb_ w hb; clear hb hg) | ((with_reducible refine gate_dst (N := 4) rfl ?_); refine bx_ 4 #[.int .i64 0, .int .i64 0] 23 ?_; intro gb341 hg w9 BK341 hb; have GE341 := ge_ w hg; have NB339_341 := nlk hg BK339; have NB341_339 := ngk hg BK339; have NB340_341 := nlk hg BK340; have NB341_340 := ngk hg BK340; replace BK339 := kb BK339 hb; replace BK340 := kb BK340 hb; replace HB := hb_ w hb; clear hb hg; have hnb10 := NB339_340.out; have hnc10 := NB340_339.out; have hnb11 := NB339_341.out; have hnc11 := NB341_339.out; obtain ⟨hcz12_0, hcz12_1⟩ := bc2 BK339.out; obtain ⟨hfz12_0, hfz12_1⟩ := bf2 BK339.out; have hnb13 := NB340_341.out; have hnc13 := NB341_340.out; obtain ⟨hcz14_0, hcz14_1⟩ := bc2 BK340.out; obtain ⟨hfz14_0, hfz14_1⟩ := bf2 BK340.out) | ((with_reducible refine gate_callee (f := 67) rfl ?_); refine goesL_ (some 7) rfl rfl Tryz.func67 (by kernel_rfl) rfl #[.agg #[.int .i64 a0_0, .int .i64 a0_1], .agg #[.int .i64 a1_0, .int .i64 a1_1]] rfl (by (try simp only [mp]); first | done | rfl | (simp only [ld]; rfl)) ?_; (with_reducible refine (serinetteref01_both.calls k a0_0 a0_1 a1_0 a1_1 true _ A3.out).mono ?_); rintro e w15 ⟨rfl, hb⟩; refine ⟨_, rfl, ?_⟩; replace BK339 := kb BK339 hb; replace BK340 := kb BK340 hb; replace BK341 := kb BK341 hb; replace HB := hb_ w hb; obtain ⟨hcz16_0, hcz16_1⟩ := bc2 BK339.out; obtain ⟨hfz16_0, hfz16_1⟩ := bf2 BK339.out; obtain ⟨hcz17_0, hcz17_1⟩ := bc2 BK340.out; obtain ⟨hfz17_0, hfz17_1⟩ := bf2 BK340.out) | ((with_reducible refine gate_callee (f := 29) rfl ?_); refine goesL_ (some 12) rfl rfl Tryz.func29 (by kernel_rfl) rfl #[.agg #[.int .i64 a0_0, .int .i64 a0_1], .agg #[.int .i64 a1_0, .int .i64 a1_1]] rfl (by (try simp only [mp]); first | done | rfl | (simp only [ld]; rfl)) ?_; (with_reducible refine (serinetteref01_Cmp.calls k a0_0 a0_1 a1_0 a1_1 t343 _ A5.out).mono ?_); rintro e w18 ⟨rfl, hb⟩; refine ⟨_, rfl, ?_⟩; replace BK339 := kb BK339 hb; replace BK340 := kb BK340 hb; replace BK341 := kb BK341 hb; replace HB := hb_ w hb; obtain ⟨hcz19_0, hcz19_1⟩ := bc2 BK339.out; obtain ⟨hfz19_0, hfz19_1⟩ := bf2 BK339.out; obtain ⟨hcz20_0, hcz20_1⟩ := bc2 BK341.out; obtain ⟨hfz20_0, hfz20_1⟩ := bf2 BK341.out)); refine bodyPost_ret (results_cell_row rfl _ _ gb341 23 #[.int .i64 a0_0, .int .i64 a0_1] (0, 0) _ rfl (by exact rq BK341.out (by rfl)) Tryz.underlying23 rfl (by kernel_rfl)) rfl ?_; exact en_
  · rw [if_neg c6] at H; have c6b0 : decide (t343 ≤ 0) = false := decide_eq_false c6; clear c6; simp only [Option.some.injEq, Prod.mk.injEq] at H; obtain ⟨rfl, rfl⟩ := H; go_enter Tryz.func55, Tryz.ntmps55; go_wp2_with (first | ((with_reducible refine gate_dst (N := 2) rfl ?_); refine bx_ 2 #[.int .i64 a0_0, .int .i64 a0_1] 23 ?_; intro gb339 hg w21 BK339 hb; have GE339 := hz_ hg HB; replace HB := hs HB hb; clear hb hg) | ((with_reducible refine gate_dst (N := 3) rfl ?_); refine bx_ 3 #[.int .i64 a1_0, .int .i64 a1_1] 23 ?_; intro gb340 hg w22 BK340 hb; have GE340 := ge_ w hg; have NB339_340 := nlk hg BK339; have NB340_339 := ngk hg BK339; replace BK339 := kb BK339 hb; replace HB := hb_ w hb; clear hb hg) | ((with_reducible refine gate_dst (N := 4) rfl ?_); refine bx_ 4 #[.int .i64 0, .int .i64 0] 23 ?_; intro gb341 hg w23 BK341 hb; have GE341 := ge_ w hg; have NB339_341 := nlk hg BK339; have NB341_339 := ngk hg BK339; have NB340_341 := nlk hg BK340; have NB341_340 := ngk hg BK340; replace BK339 := kb BK339 hb; replace BK340 := kb BK340 hb; replace HB := hb_ w hb; clear hb hg; have hnb24 := NB339_340.out; have hnc24 := NB340_339.out; have hnb25 := NB339_341.out; have hnc25 := NB341_339.out; obtain ⟨hcz26_0, hcz26_1⟩ := bc2 BK339.out; obtain ⟨hfz26_0, hfz26_1⟩ := bf2 BK339.out; have hnb27 := NB340_341.out; have hnc27 := NB341_340.out; obtain ⟨hcz28_0, hcz28_1⟩ := bc2 BK340.out; obtain ⟨hfz28_0, hfz28_1⟩ := bf2 BK340.out) | ((with_reducible refine gate_callee (f := 67) rfl ?_); refine goesL_ (some 7) rfl rfl Tryz.func67 (by kernel_rfl) rfl #[.agg #[.int .i64 a0_0, .int .i64 a0_1], .agg #[.int .i64 a1_0, .int .i64 a1_1]] rfl (by (try simp only [mp]); first | done | rfl | (simp only [ld]; rfl)) ?_; (with_reducible refine (serinetteref01_both.calls k a0_0 a0_1 a1_0 a1_1 true _ A3.out).mono ?_); rintro e w29 ⟨rfl, hb⟩; refine ⟨_, rfl, ?_⟩; replace BK339 := kb BK339 hb; replace BK340 := kb BK340 hb; replace BK341 := kb BK341 hb; replace HB := hb_ w hb; obtain ⟨hcz30_0, hcz30_1⟩ := bc2 BK339.out; obtain ⟨hfz30_0, hfz30_1⟩ := bf2 BK339.out; obtain ⟨hcz31_0, hcz31_1⟩ := bc2 BK340.out; obtain ⟨hfz31_0, hfz31_1⟩ := bf2 BK340.out) | ((with_reducible refine gate_callee (f := 29) rfl ?_); refine goesL_ (some 12) rfl rfl Tryz.func29 (by kernel_rfl) rfl #[.agg #[.int .i64 a0_0, .int .i64 a0_1], .agg #[.int .i64 a1_0, .int .i64 a1_1]] rfl (by (try simp only [mp]); first | done | rfl | (simp only [ld]; rfl)) ?_; (with_reducible refine (serinetteref01_Cmp.calls k a0_0 a0_1 a1_0 a1_1 t343 _ A5.out).mono ?_); rintro e w32 ⟨rfl, hb⟩; refine ⟨_, rfl, ?_⟩; replace BK339 := kb BK339 hb; replace BK340 := kb BK340 hb; replace BK341 := kb BK341 hb; replace HB := hb_ w hb; obtain ⟨hcz33_0, hcz33_1⟩ := bc2 BK340.out; obtain ⟨hfz33_0, hfz33_1⟩ := bf2 BK340.out; obtain ⟨hcz34_0, hcz34_1⟩ := bc2 BK341.out; obtain ⟨hfz34_0, hfz34_1⟩ := bf2 BK341.out)); refine bodyPost_ret (results_cell_row rfl _ _ gb341 23 #[.int .i64 a1_0, .int .i64 a1_1] (0, 0) _ rfl (by exact rq BK341.out (by rfl)) Tryz.underlying23 rfl (by kernel_rfl)) rfl ?_; exact en_
 · replace c4 := Bool.eq_false_iff.mpr c4; subst c4; rw [if_neg (show ¬ (false = true) by decide)] at H; replace H := Option.bind_eq_some_iff.mp H; obtain ⟨⟨t344, t345⟩, A350, H⟩ := H; (try dsimp only at H); have A35 := Aside0.mk A350; clear A350; simp only [Option.some.injEq, Prod.mk.injEq] at H; obtain ⟨rfl, rfl⟩ := H; go_enter Tryz.func55, Tryz.ntmps55; go_wp2_with (first | ((with_reducible refine gate_dst (N := 2) rfl ?_); refine bx_ 2 #[.int .i64 a0_0, .int .i64 a0_1] 23 ?_; intro gb339 hg w36 BK339 hb; have GE339 := hz_ hg HB; replace HB := hs HB hb; clear hb hg) | ((with_reducible refine gate_dst (N := 3) rfl ?_); refine bx_ 3 #[.int .i64 a1_0, .int .i64 a1_1] 23 ?_; intro gb340 hg w37 BK340 hb; have GE340 := ge_ w hg; have NB339_340 := nlk hg BK339; have NB340_339 := ngk hg BK339; replace BK339 := kb BK339 hb; replace HB := hb_ w hb; clear hb hg) | ((with_reducible refine gate_dst (N := 4) rfl ?_); refine bx_ 4 #[.int .i64 0, .int .i64 0] 23 ?_; intro gb341 hg w38 BK341 hb; have GE341 := ge_ w hg; have NB339_341 := nlk hg BK339; have NB341_339 := ngk hg BK339; have NB340_341 := nlk hg BK340; have NB341_340 := ngk hg BK340; replace BK339 := kb BK339 hb; replace BK340 := kb BK340 hb; replace HB := hb_ w hb; clear hb hg; have hnb39 := NB339_340.out; have hnc39 := NB340_339.out; have hnb40 := NB339_341.out; have hnc40 := NB341_339.out; obtain ⟨hcz41_0, hcz41_1⟩ := bc2 BK339.out; obtain ⟨hfz41_0, hfz41_1⟩ := bf2 BK339.out; have hnb42 := NB340_341.out; have hnc42 := NB341_340.out; obtain ⟨hcz43_0, hcz43_1⟩ := bc2 BK340.out; obtain ⟨hfz43_0, hfz43_1⟩ := bf2 BK340.out) | ((with_reducible refine gate_callee (f := 67) rfl ?_); refine goesL_ (some 7) rfl rfl Tryz.func67 (by kernel_rfl) rfl #[.agg #[.int .i64 a0_0, .int .i64 a0_1], .agg #[.int .i64 a1_0, .int .i64 a1_1]] rfl (by (try simp only [mp]); first | done | rfl | (simp only [ld]; rfl)) ?_; (with_reducible refine (serinetteref01_both.calls k a0_0 a0_1 a1_0 a1_1 false _ A3.out).mono ?_); rintro e w44 ⟨rfl, hb⟩; refine ⟨_, rfl, ?_⟩; replace BK339 := kb BK339 hb; replace BK340 := kb BK340 hb; replace BK341 := kb BK341 hb; replace HB := hb_ w hb; ) | ((with_reducible refine gate_callee (f := 26) rfl ?_); refine goesL_ (some 9) rfl rfl Tryz.func26 (by kernel_rfl) rfl #[] rfl (by (try simp only [mp]); first | done | rfl | (simp only [ld]; rfl)) ?_; (with_reducible refine (serinetteref01_None.calls  t344 t345 _ A35.out).mono ?_); rintro e w45 ⟨rfl, hb⟩; refine ⟨_, rfl, ?_⟩; replace BK339 := kb BK339 hb; replace BK340 := kb BK340 hb; replace BK341 := kb BK341 hb; replace HB := hb_ w hb; obtain ⟨hcz46_0, hcz46_1⟩ := bc2 BK341.out; obtain ⟨hfz46_0, hfz46_1⟩ := bf2 BK341.out)); refine bodyPost_ret (results_cell_row rfl _ _ gb341 23 #[.int .i64 t344, .int .i64 t345] (0, 0) _ rfl (by exact rq BK341.out (by rfl)) Tryz.underlying23 rfl (by kernel_rfl)) rfl ?_; exact en_
def serinetteref03_lower.f (k : Nat) (a0_0 : Int) (a0_1 : Int) (a1_0 : Int) (a1_1 : Int) : Option (Int × Int) := (serinetteref01_Min.f k a0_0 a0_1 a1_0 a1_1).bind fun bt349 => (some (bt349.1, bt349.2))
theorem serinetteref03_lower.mono : ∀ a0 a1 a2 a3 k, LeO (serinetteref03_lower.f k a0 a1 a2 a3) (serinetteref03_lower.f (k + 1) a0 a1 a2 a3) := by
 intro a0 a1 a2 a3 k
 unfold serinetteref03_lower.f
 repeat' first
   | (with_reducible exact serinetteref01_Min.mono _ _ _ _ _)
   | (with_reducible exact LeO.refl _)
   | (with_reducible exact LeO.none _)
   | (with_reducible refine LeO.ite ?_ ?_)
   | (with_reducible refine LeO.bind ?_ (fun _ => ?_))
   | exact serinetteref01_Min.mono _ _ _ _ _
   | exact LeO.none _
   | refine LeO.ite ?_ ?_
   | refine LeO.bind ?_ (fun _ => ?_)
set_option maxHeartbeats 8000000 in
set_option maxRecDepth 100000 in
theorem serinetteref03_lower.calls (k : Nat) (a0_0 : Int) (a0_1 : Int) (a1_0 : Int) (a1_1 : Int) (r1 : Int) (r2 : Int) (w : World) (h : serinetteref03_lower.f k a0_0 a0_1 a1_0 a1_1 = some (r1, r2)) :
  Calls Tryz.prog 38 #[.agg #[.int .i64 a0_0, .int .i64 a0_1], .agg #[.int .i64 a1_0, .int .i64 a1_1]] w fun e w' => e = .returned (.agg #[.int .i64 r1, .int .i64 r2]) ∧ Below w.heap.size w w' := by
 have hu23 := Tryz.underlying23; have HB := Aside0.mk (Below.refl w.heap.size w); have H : ((serinetteref01_Min.f k a0_0 a0_1 a1_0 a1_1).bind fun bt349 => (some (bt349.1, bt349.2))) = some (r1, r2) := h; clear h; replace H := Option.bind_eq_some_iff.mp H; obtain ⟨⟨t349, t350⟩, A30, H⟩ := H; (try dsimp only at H); have A3 := Aside0.mk A30; clear A30; simp only [Option.some.injEq, Prod.mk.injEq] at H; obtain ⟨rfl, rfl⟩ := H; go_enter Tryz.func38, Tryz.ntmps38; go_wp2_with (first | ((with_reducible refine gate_dst (N := 2) rfl ?_); refine bx_ 2 #[.int .i64 a0_0, .int .i64 a0_1] 23 ?_; intro gb346 hg w4 BK346 hb; have GE346 := hz_ hg HB; replace HB := hs HB hb; clear hb hg) | ((with_reducible refine gate_dst (N := 3) rfl ?_); refine bx_ 3 #[.int .i64 a1_0, .int .i64 a1_1] 23 ?_; intro gb347 hg w5 BK347 hb; have GE347 := ge_ w hg; have NB346_347 := nlk hg BK346; have NB347_346 := ngk hg BK346; replace BK346 := kb BK346 hb; replace HB := hb_ w hb; clear hb hg) | ((with_reducible refine gate_dst (N := 4) rfl ?_); refine bx_ 4 #[.int .i64 0, .int .i64 0] 23 ?_; intro gb348 hg w6 BK348 hb; have GE348 := ge_ w hg; have NB346_348 := nlk hg BK346; have NB348_346 := ngk hg BK346; have NB347_348 := nlk hg BK347; have NB348_347 := ngk hg BK347; replace BK346 := kb BK346 hb; replace BK347 := kb BK347 hb; replace HB := hb_ w hb; clear hb hg; have hnb7 := NB346_347.out; have hnc7 := NB347_346.out; have hnb8 := NB346_348.out; have hnc8 := NB348_346.out; obtain ⟨hcz9_0, hcz9_1⟩ := bc2 BK346.out; obtain ⟨hfz9_0, hfz9_1⟩ := bf2 BK346.out; have hnb10 := NB347_348.out; have hnc10 := NB348_347.out; obtain ⟨hcz11_0, hcz11_1⟩ := bc2 BK347.out; obtain ⟨hfz11_0, hfz11_1⟩ := bf2 BK347.out) | ((with_reducible refine gate_callee (f := 55) rfl ?_); refine goesL_ (some 7) rfl rfl Tryz.func55 (by kernel_rfl) rfl #[.agg #[.int .i64 a0_0, .int .i64 a0_1], .agg #[.int .i64 a1_0, .int .i64 a1_1]] rfl (by (try simp only [mp]); first | done | rfl | (simp only [ld]; rfl)) ?_; (with_reducible refine (serinetteref01_Min.calls k a0_0 a0_1 a1_0 a1_1 t349 t350 _ A3.out).mono ?_); rintro e w12 ⟨rfl, hb⟩; refine ⟨_, rfl, ?_⟩; replace BK346 := kb BK346 hb; replace BK347 := kb BK347 hb; replace BK348 := kb BK348 hb; replace HB := hb_ w hb; obtain ⟨hcz13_0, hcz13_1⟩ := bc2 BK348.out; obtain ⟨hfz13_0, hfz13_1⟩ := bf2 BK348.out)); refine bodyPost_ret (results_cell_row rfl _ _ gb348 23 #[.int .i64 t349, .int .i64 t350] (0, 0) _ rfl (by exact rq BK348.out (by rfl)) Tryz.underlying23 rfl (by kernel_rfl)) rfl ?_; exact en_
def serinetteref01_Max.f (k : Nat) (a0_0 : Int) (a0_1 : Int) (a1_0 : Int) (a1_1 : Int) : Option (Int × Int) := (serinetteref01_both.f k a0_0 a0_1 a1_0 a1_1).bind fun t354 => (if t354 = true then ((serinetteref01_Cmp.f k a0_0 a0_1 a1_0 a1_1).bind fun t355 => (if t355 ≥ 0 then (some (a0_0, a0_1)) else (some (a1_0, a1_1)))) else ((serinetteref01_None.f).bind fun bt356 => (some (bt356.1, bt356.2))))
theorem serinetteref01_Max.mono : ∀ a0 a1 a2 a3 k, LeO (serinetteref01_Max.f k a0 a1 a2 a3) (serinetteref01_Max.f (k + 1) a0 a1 a2 a3) := by
 intro a0 a1 a2 a3 k
 unfold serinetteref01_Max.f
 repeat' first
   | (with_reducible exact serinetteref01_Cmp.mono _ _ _ _ _)
   | (with_reducible exact serinetteref01_both.mono _ _ _ _ _)
   | (with_reducible exact LeO.refl _)
   | (with_reducible exact LeO.none _)
   | (with_reducible refine LeO.ite ?_ ?_)
   | (with_reducible refine LeO.bind ?_ (fun _ => ?_))
   | exact serinetteref01_Cmp.mono _ _ _ _ _
   | exact serinetteref01_both.mono _ _ _ _ _
   | exact LeO.none _
   | refine LeO.ite ?_ ?_
   | refine LeO.bind ?_ (fun _ => ?_)
end Go.Proofs.YtlibjgmnookakaaGreatDoor.SSpanSays
