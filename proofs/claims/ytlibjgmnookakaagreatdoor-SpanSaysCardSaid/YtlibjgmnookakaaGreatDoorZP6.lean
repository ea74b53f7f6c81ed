/- Parts of the proof of SpanSays, joined by program out of this session's own texts. -/
import Derived.Test.YtlibjgmnookakaaGreatDoorZP5
set_option linter.unusedVariables false
set_option linter.unusedSimpArgs false
namespace Go.Proofs.YtlibjgmnookakaaGreatDoor.SSpanSays
open Go.Proofs.YtlibjgmnookakaaGreatDoor
open Go.RowKit Go.Proofs.YtlibjgmnookakaaGreatDoor.Wd.PrintWords Go.Proofs.YtlibjgmnookakaaGreatDoor.Wd.PrintLast Go.Proofs.YtlibjgmnookakaaGreatDoor.Wd.PrintMore
attribute [local go_sem] max2_int min2_int max_two min_two max_three min_three max_four min_four
attribute [local go_sem] max2_int min2_int max_two min_two max_three min_three max_four min_four
attribute [local go_sem] max2_int min2_int max_two min_two max_three min_three max_four min_four
attribute [local go_sem high] eqA23
attribute [local go_sem high] eqA25
set_option maxHeartbeats 8000000 in
set_option maxRecDepth 100000 in
theorem serinettelaw03_awake.calls (k : Nat)  (r : Bool) (w : World) (htab : FI.Tb w) (h : serinettelaw03_awake.f k  = some r) :
  Calls Tryz.prog 22 #[] w fun e w' => e = .returned (.bool r) ∧ Below w.heap.size w w' := by
 have HTb := Aside0.mk htab; clear htab
 have hu25 := Tryz.underlying25; have hu23 := Tryz.underlying23; have HB := Aside0.mk (Below.refl w.heap.size w); have H : ((serinetteref01_Whole.f k 0).bind fun bt938 => ((serinetteref01_Whole.f k 1).bind fun bt940 => ((span_Make.f k bt938.1 bt938.2 bt940.1 bt940.2 2).bind fun bt942 => ((serinetteref01_Whole.f k 0).bind fun bt950 => ((serinetteref01_Whole.f k 1).bind fun bt952 => ((span_Make.f k bt950.1 bt950.2 bt952.1 bt952.2 3).bind fun bt954 => ((span_Op.f k (⟨#[97, 100, 100]⟩ : ByteArray) (([(⟨(⟨bt942.1, bt942.2.1⟩ : S23), (⟨bt942.2.2.1, bt942.2.2.2.1⟩ : S23), bt942.2.2.2.2.1, bt942.2.2.2.2.2.1, bt942.2.2.2.2.2.2⟩ : S25), (⟨(⟨bt954.1, bt954.2.1⟩ : S23), (⟨bt954.2.2.1, bt954.2.2.2.1⟩ : S23), bt954.2.2.2.2.1, bt954.2.2.2.2.2.1, bt954.2.2.2.2.2.2⟩ : S25)] : List (S25)))).bind fun bt965 => (if bt965.2.2.2.2.2.2.2 = 0 then ((span_Text.f k bt965.1 bt965.2.1 bt965.2.2.1 bt965.2.2.2.1 bt965.2.2.2.2.1 bt965.2.2.2.2.2.1 bt965.2.2.2.2.2.2.1).bind fun t974 => (if t974.toList = ([91, 48, 44, 50, 93, 47, 54] : List UInt8) then ((span_Has.f k bt965.1 bt965.2.1 bt965.2.2.1 bt965.2.2.2.1 bt965.2.2.2.2.1 bt965.2.2.2.2.2.1 bt965.2.2.2.2.2.2.1 5 6).bind fun t975 => (if t975 = true then ((span_Has.f k bt965.1 bt965.2.1 bt965.2.2.1 bt965.2.2.2.1 bt965.2.2.2.2.1 bt965.2.2.2.2.2.1 bt965.2.2.2.2.2.2.1 5 4).bind fun t976 => (some (!t976))) else (none))) else (none))) else (none))))))))) = some r := h; clear h; replace H := Option.bind_eq_some_iff.mp H; obtain ⟨⟨t938, t939⟩, A10, H⟩ := H; (try dsimp only at H); have A1 := Aside0.mk A10; clear A10; replace H := Option.bind_eq_some_iff.mp H; obtain ⟨⟨t940, t941⟩, A20, H⟩ := H; (try dsimp only at H); have A2 := Aside0.mk A20; clear A20; replace H := Option.bind_eq_some_iff.mp H; obtain ⟨⟨t942, t943, t944, t945, t946, t947, t948⟩, A30, H⟩ := H; (try dsimp only at H); have A3 := Aside0.mk A30; clear A30; replace H := Option.bind_eq_some_iff.mp H; obtain ⟨⟨t950, t951⟩, A40, H⟩ := H; (try dsimp only at H); have A4 := Aside0.mk A40; clear A40; replace H := Option.bind_eq_some_iff.mp H; obtain ⟨⟨t952, t953⟩, A50, H⟩ := H; (try dsimp only at H); have A5 := Aside0.mk A50; clear A50; replace H := Option.bind_eq_some_iff.mp H; obtain ⟨⟨t954, t955, t956, t957, t958, t959, t960⟩, A60, H⟩ := H; (try dsimp only at H); have A6 := Aside0.mk A60; clear A60; obtain ⟨y962, hy962⟩ : ∃ y_ : List (S25), y_ = (([(⟨(⟨t942, t943⟩ : S23), (⟨t944, t945⟩ : S23), t946, t947, t948⟩ : S25), (⟨(⟨t954, t955⟩ : S23), (⟨t956, t957⟩ : S23), t958, t959, t960⟩ : S25)] : List (S25))) := ⟨_, rfl⟩; (replace H : ((span_Op.f k (⟨#[97, 100, 100]⟩ : ByteArray) y962).bind fun bt965 => (if bt965.2.2.2.2.2.2.2 = 0 then ((span_Text.f k bt965.1 bt965.2.1 bt965.2.2.1 bt965.2.2.2.1 bt965.2.2.2.2.1 bt965.2.2.2.2.2.1 bt965.2.2.2.2.2.2.1).bind fun t974 => (if t974.toList = ([91, 48, 44, 50, 93, 47, 54] : List UInt8) then ((span_Has.f k bt965.1 bt965.2.1 bt965.2.2.1 bt965.2.2.2.1 bt965.2.2.2.2.1 bt965.2.2.2.2.2.1 bt965.2.2.2.2.2.2.1 5 6).bind fun t975 => (if t975 = true then ((span_Has.f k bt965.1 bt965.2.1 bt965.2.2.1 bt965.2.2.2.1 bt965.2.2.2.2.1 bt965.2.2.2.2.2.1 bt965.2.2.2.2.2.2.1 5 4).bind fun t976 => (some (!t976))) else (none))) else (none))) else (none))) = some r := by first | (rw [hy962]; with_reducible exact H) | (have H2_ := (Option.bind_some _ _).symm.trans H; rw [hy962]; with_reducible exact H2_) | (have H2_ := (Option.bind_some _ _).symm.trans H; with_reducible exact H2_) | with_reducible exact H | (rw [hy962]; exact H) | exact H); have Ny962 := Aside0.mk hy962; clear hy962; replace H := Option.bind_eq_some_iff.mp H; obtain ⟨⟨t965, t966, t967, t968, t969, t970, t971, t972⟩, A70, H⟩ := H; (try dsimp only at H); have A7 := Aside0.mk A70; clear A70; by_cases c8 : t972 = 0
 ·
  rw [if_pos c8] at H; have c8b0 : (t972 == 0) = true := beq_iff_eq.mpr c8; have c8b1 : (t972 != 0) = false := bne_eq_false_iff_eq.mpr c8; clear c8; replace H := Option.bind_eq_some_iff.mp H; obtain ⟨t974, A90, H⟩ := H; (try dsimp only at H); have A9 := Aside0.mk A90; clear A90; by_cases c10 : t974.toList = ([91, 48, 44, 50, 93, 47, 54] : List UInt8)
  ·
   rw [if_pos c10] at H; have c10b0 : (t974.toList == ([91, 48, 44, 50, 93, 47, 54] : List UInt8)) = true := beq_iff_eq.mpr c10; have c10b1 : (t974.toList != ([91, 48, 44, 50, 93, 47, 54] : List UInt8)) = false := bne_eq_false_iff_eq.mpr c10; clear c10; replace H := Option.bind_eq_some_iff.mp H; obtain ⟨t975, A110, H⟩ := H; (try dsimp only at H); have A11 := Aside0.mk A110; clear A110; by_cases c12 : t975 = true
   · subst c12; rw [if_pos rfl] at H; replace H := Option.bind_eq_some_iff.mp H; obtain ⟨t976, A130, H⟩ := H; (try dsimp only at H); have A13 := Aside0.mk A130; clear A130; obtain rfl := Option.some.inj H; go_enter Tryz.func22, Tryz.ntmps22; go_wp2_with (first | ((with_reducible refine gate_callee (f := 47) rfl ?_); refine goesL_ (some 5) rfl rfl Tryz.func47 (by kernel_rfl) rfl #[.int .i64 0] rfl (by (try simp only [mp]); first | done | rfl | (simp only [ld]; rfl)) ?_; (with_reducible refine (serinetteref01_Whole.calls k 0 t938 t939 _ A1.out).mono ?_); rintro e w14 ⟨rfl, hb⟩; refine ⟨_, rfl, ?_⟩; replace HB := hs HB hb; (try clear hb); ) | ((with_reducible refine gate_callee (f := 47) rfl ?_); refine goesL_ (some 6) rfl rfl Tryz.func47 (by kernel_rfl) rfl #[.int .i64 1] rfl (by (try simp only [mp]); first | done | rfl | (simp only [ld]; rfl)) ?_; (with_reducible refine (serinetteref01_Whole.calls k 1 t940 t941 _ A2.out).mono ?_); rintro e w15 ⟨rfl, hb⟩; refine ⟨_, rfl, ?_⟩; replace HB := hs HB hb; (try clear hb); ) | ((with_reducible refine gate_callee (f := 46) rfl ?_); refine goesL_ (some 7) rfl rfl Tryz.func46 (by kernel_rfl) rfl #[.agg #[.int .i64 t938, .int .i64 t939], .agg #[.int .i64 t940, .int .i64 t941], .int .i64 2] rfl (by (try simp only [mp]); first | done | rfl | (simp only [ld]; rfl)) ?_; (with_reducible refine (span_Make.calls k t938 t939 t940 t941 2 t942 t943 t944 t945 t946 t947 t948 _ A3.out).mono ?_); rintro e w16 ⟨rfl, hb⟩; refine ⟨_, rfl, ?_⟩; replace HB := hs HB hb; (try clear hb); ) | ((with_reducible refine gate_dst (N := 1) rfl ?_); refine bx_ 1 #[.int .i64 0, .int .i64 0, .int .i64 0, .int .i64 0, .int .i64 0, .bool false, .bool false] 25 ?_; intro gb949 hg w17 BK949 hb; have GE949 := hz_ hg HB; replace HB := hs HB hb; clear hb hg; obtain ⟨hcz18_0, hcz18_1, hcz18_2, hcz18_3, hcz18_4, hcz18_5, hcz18_6⟩ := bc7 BK949.out; obtain ⟨hfz18_0, hfz18_1, hfz18_2, hfz18_3, hfz18_4, hfz18_5, hfz18_6⟩ := bf7 BK949.out) | ((with_reducible refine gate_callee (f := 47) rfl ?_); refine goesL_ (some 8) rfl rfl Tryz.func47 (by kernel_rfl) rfl #[.int .i64 0] rfl (by (try simp only [mp]); first | done | rfl | (simp only [ld]; rfl)) ?_; (with_reducible refine (serinetteref01_Whole.calls k 0 t950 t951 _ A4.out).mono ?_); rintro e w19 ⟨rfl, hb⟩; refine ⟨_, rfl, ?_⟩; replace BK949 := Aside0.mk (blk_below (g := gb949) (o := .cells #[.int .i64 t942, .int .i64 t943, .int .i64 t944, .int .i64 t945, .int .i64 t946, .bool t947, .bool t948] 25 (0, 0)) (by exact rq BK949.out (by rfl)) hb); replace HB := hb_ w hb; (try clear hb); ) | ((with_reducible refine gate_callee (f := 47) rfl ?_); refine goesL_ (some 9) rfl rfl Tryz.func47 (by kernel_rfl) rfl #[.int .i64 1] rfl (by (try simp only [mp]); first | done | rfl | (simp only [ld]; rfl)) ?_; (with_reducible refine (serinetteref01_Whole.calls k 1 t952 t953 _ A5.out).mono ?_); rintro e w20 ⟨rfl, hb⟩; refine ⟨_, rfl, ?_⟩; replace BK949 := kb BK949 hb; replace HB := hb_ w hb; (try clear hb); ) | ((with_reducible refine gate_callee (f := 46) rfl ?_); refine goesL_ (some 10) rfl rfl Tryz.func46 (by kernel_rfl) rfl #[.agg #[.int .i64 t950, .int .i64 t951], .agg #[.int .i64 t952, .int .i64 t953], .int .i64 3] rfl (by (try simp only [mp]); first | done | rfl | (simp only [ld]; rfl)) ?_; (with_reducible refine (span_Make.calls k t950 t951 t952 t953 3 t954 t955 t956 t957 t958 t959 t960 _ A6.out).mono ?_); rintro e w21 ⟨rfl, hb⟩; refine ⟨_, rfl, ?_⟩; replace BK949 := kb BK949 hb; replace HB := hb_ w hb; (try clear hb); ) | ((with_reducible refine gate_dst (N := 2) rfl ?_); refine bx_ 2 #[.int .i64 0, .int .i64 0, .int .i64 0, .int .i64 0, .int .i64 0, .bool false, .bool false] 25 ?_; intro gb961 hg w22 BK961 hb; have GE961 := ge_ w hg; have NB949_961 := nlk hg BK949; have NB961_949 := ngk hg BK949; replace BK949 := kb BK949 hb; replace HB := hb_ w hb; clear hb hg; have hnb23 := NB961_949.out; have hnc23 := NB949_961.out; obtain ⟨hcz24_0, hcz24_1, hcz24_2, hcz24_3, hcz24_4, hcz24_5, hcz24_6⟩ := bc7 BK961.out; obtain ⟨hfz24_0, hfz24_1, hfz24_2, hfz24_3, hfz24_4, hfz24_5, hfz24_6⟩ := bf7 BK961.out; obtain ⟨hcz25_0, hcz25_1, hcz25_2, hcz25_3, hcz25_4, hcz25_5, hcz25_6⟩ := bc7 BK949.out; obtain ⟨hfz25_0, hfz25_1, hfz25_2, hfz25_3, hfz25_4, hfz25_5, hfz25_6⟩ := bf7 BK949.out) | ((with_reducible refine gate_dst (N := 14) rfl ?_); refine Kd.R_lit k25 _ 25 ?hg (N := 14) ?hd (xs := ([(⟨(⟨t942, t943⟩ : S23), (⟨t944, t945⟩ : S23), t946, t947, t948⟩ : S25), (⟨(⟨t954, t955⟩ : S23), (⟨t956, t957⟩ : S23), t958, t959, t960⟩ : S25)] : List (S25))) (inner := [.int .i64 t942, .int .i64 t943, .int .i64 t944, .int .i64 t945, .int .i64 t946, .bool t947, .bool t948, .int .i64 t954, .int .i64 t955, .int .i64 t956, .int .i64 t957, .int .i64 t958, .bool t959, .bool t960]) (ok := fun _ => True) (okp := fun _ => True) ?hr ?hp (fun _ hk => hk) trivial (Below.refl _ _) (Nat.le_refl _) (by simp) ?_; (case hd => rfl); (case hg => rfl); (case hr => first | (go_simp; done) | (go_simp; rfl)); (case hp => exact (Reps.c7 (show Kd.M k25 _ _ _ (⟨(⟨t942, t943⟩ : S23), (⟨t944, t945⟩ : S23), t946, t947, t948⟩ : S25) [.int .i64 t942, .int .i64 t943, .int .i64 t944, .int .i64 t945, .int .i64 t946, .bool t947, .bool t948] from (k25_mkM _ _ _ (⟨(⟨t942, t943⟩ : S23), (⟨t944, t945⟩ : S23), t946, t947, t948⟩ : S25) )) (Reps.c7 (show Kd.M k25 _ _ _ (⟨(⟨t954, t955⟩ : S23), (⟨t956, t957⟩ : S23), t958, t959, t960⟩ : S25) [.int .i64 t954, .int .i64 t955, .int .i64 t956, .int .i64 t957, .int .i64 t958, .bool t959, .bool t960] from (k25_mkM _ _ _ (⟨(⟨t954, t955⟩ : S23), (⟨t956, t957⟩ : S23), t958, t959, t960⟩ : S25) )) (Reps.none _ _)))); intro v963 w26 ho27 hb hg_ hnew_; clear hg_ hnew_; (first | rw [← Ny962.out] at ho27 | (simp only [Int.reduceToNat] at ho27; rw [← Ny962.out] at ho27)); have HO964 := Aside0.mk (Kd.R_lower (Kd.R_newB (Kd.R_newB ho27 (g := gb949) (o := .cells #[.int .i64 t942, .int .i64 t943, .int .i64 t944, .int .i64 t945, .int .i64 t946, .bool t947, .bool t948] 25 (0, 0)) (by (iterate 7 refine f1 NB949_961 ?_); refine bk ?_; exact BK949.out)) (g := gb961) (o := .cells #[.int .i64 t954, .int .i64 t955, .int .i64 t956, .int .i64 t957, .int .i64 t958, .bool t959, .bool t960] 25 (0, 0)) (by exact rq BK961.out (by rfl))) (below_size (by repeat first | (with_reducible exact HB.out) | refine bl1 ?_ | (with_reducible refine bset ?_ ‹_›) | exact HB.out))); replace BK949 := Aside0.mk (blk_below (g := gb949) (o := .cells #[.int .i64 t942, .int .i64 t943, .int .i64 t944, .int .i64 t945, .int .i64 t946, .bool t947, .bool t948] 25 (0, 0)) (by (iterate 7 refine f1 NB949_961 ?_); refine bk ?_; exact BK949.out) hb); replace BK961 := Aside0.mk (blk_below (g := gb961) (o := .cells #[.int .i64 t954, .int .i64 t955, .int .i64 t956, .int .i64 t957, .int .i64 t958, .bool t959, .bool t960] 25 (0, 0)) (by exact rq BK961.out (by rfl)) hb); replace HB := hb_ w hb; clear hb ho27; obtain ⟨Ao28, co28, eo28⟩ := Kd.R_slice HO964.out; subst eo28) | ((with_reducible refine gate_callee (f := 48) rfl ?_); refine goesL_ (some 15) rfl rfl Tryz.func48 (by kernel_rfl) rfl #[.string (⟨#[97, 100, 100]⟩ : ByteArray), .slice Ao28 y962.length co28] rfl (by (try simp only [mp]); first | done | rfl | (simp only [ld]; rfl)) ?_; (with_reducible refine (span_Op.calls k (⟨#[97, 100, 100]⟩ : ByteArray) _ _ y962 t965 t966 t967 t968 t969 t970 t971 t972 _ ?side1 ?side2 A7.out).mono ?_); (case side1 => repeat (first | exact (Kd.R_reads' HO964.out).2.2 | (with_reducible refine Kd.C_alloc ?_ _) | (with_reducible refine Kd.C_drewN ?_ _) | (with_reducible refine Kd.C_drew ?_))); (case side2 => exact (Kd.R_reads' HO964.out).2.1); rintro e w29 ⟨rfl, hb⟩; refine ⟨_, rfl, ?_⟩; replace HO964 := Aside0.mk (Kd.R_below (by (with_reducible repeat (first | apply Kd.R_alloc | apply Kd.R_drewN | apply Kd.R_drew)); exact HO964.out) hb); replace BK949 := kb BK949 hb; replace BK961 := kb BK961 hb; replace HB := hb_ w hb; (try clear hb); ) | ((with_reducible refine gate_dst (N := 3) rfl ?_); refine bx_ 3 #[.int .i64 0, .int .i64 0, .int .i64 0, .int .i64 0, .int .i64 0, .bool false, .bool false] 25 ?_; intro gb973 hg w30 BK973 hb; have GE973 := ge_ w hg; have NB949_973 := nlk hg BK949; have NB973_949 := ngk hg BK949; have NB961_973 := nlk hg BK961; have NB973_961 := ngk hg BK961; replace HO964 := Aside0.mk (Kd.R_below (Kd.R_elderB (by (with_reducible repeat (first | apply Kd.R_alloc | apply Kd.R_drewN | apply Kd.R_drew)); exact HO964.out) gb973 (Nat.le_of_eq hg.symm)) hb); replace BK949 := kb BK949 hb; replace BK961 := kb BK961 hb; replace HB := hb_ w hb; clear hb hg; have hnb31 := NB973_949.out; have hnc31 := NB949_973.out; have hnb32 := NB973_961.out; have hnc32 := NB961_973.out; obtain ⟨hcz33_0, hcz33_1, hcz33_2, hcz33_3, hcz33_4, hcz33_5, hcz33_6⟩ := bc7 BK973.out; obtain ⟨hfz33_0, hfz33_1, hfz33_2, hfz33_3, hfz33_4, hfz33_5, hfz33_6⟩ := bf7 BK973.out) | (go_at_call 10; (with_reducible refine (span_Text.calls k t965 t966 t967 t968 t969 t970 t971 t974 _ (by first | exact FI.tb2 HTb HB HBW | exact FI.tb1 HTb HB | exact FI.tb3 HTb HB HBW | exact FI.tb1 HTb ab_) A9.out).mono ?_); rintro e w34 ⟨rfl, hb⟩; replace HO964 := Aside0.mk (Kd.R_below (by (with_reducible repeat (first | apply Kd.R_alloc | apply Kd.R_drewN | apply Kd.R_drew)); exact (Kd.R_mono (Kd.R_far (p := ⟨gb973, 6, none⟩) (Kd.R_far (p := ⟨gb973, 5, none⟩) (Kd.R_far (p := ⟨gb973, 4, none⟩) (Kd.R_far (p := ⟨gb973, 3, none⟩) (Kd.R_far (p := ⟨gb973, 2, none⟩) (Kd.R_far (p := ⟨gb973, 1, none⟩) (Kd.R_far (p := ⟨gb973, 0, none⟩) (Kd.R_mono HO964.out (fun k_ hk => (⟨hk, hk.2⟩ : _ ∧ k_ ≠ gb973))) (fun _ hk => hk.2) (.int .i64 t965)) (fun _ hk => hk.2) (.int .i64 t966)) (fun _ hk => hk.2) (.int .i64 t967)) (fun _ hk => hk.2) (.int .i64 t968)) (fun _ hk => hk.2) (.int .i64 t969)) (fun _ hk => hk.2) (.bool t970)) (fun _ hk => hk.2) (.bool t971)) (fun _ h_ => h_.1))) hb); replace BK949 := Aside0.mk (blk_below (g := gb949) (o := .cells #[.int .i64 t942, .int .i64 t943, .int .i64 t944, .int .i64 t945, .int .i64 t946, .bool t947, .bool t948] 25 (0, 0)) (by (iterate 7 refine f1 NB949_973 ?_); refine bk ?_; exact BK949.out) hb); replace BK961 := Aside0.mk (blk_below (g := gb961) (o := .cells #[.int .i64 t954, .int .i64 t955, .int .i64 t956, .int .i64 t957, .int .i64 t958, .bool t959, .bool t960] 25 (0, 0)) (by (iterate 7 refine f1 NB961_973 ?_); refine bk ?_; exact BK961.out) hb); replace BK973 := Aside0.mk (blk_below (g := gb973) (o := .cells #[.int .i64 t965, .int .i64 t966, .int .i64 t967, .int .i64 t968, .int .i64 t969, .bool t970, .bool t971] 25 (0, 0)) (by exact rq BK973.out (by rfl)) hb); replace HB := hb_ w hb; (try clear hb); obtain ⟨hcz35_0, hcz35_1, hcz35_2, hcz35_3, hcz35_4, hcz35_5, hcz35_6⟩ := bc7 BK973.out; obtain ⟨hfz35_0, hfz35_1, hfz35_2, hfz35_3, hfz35_4, hfz35_5, hfz35_6⟩ := bf7 BK973.out) | (go_at_call 6; (with_reducible refine (span_Has.calls k t965 t966 t967 t968 t969 t970 t971 5 6 true _ A11.out).mono ?_); rintro e w36 ⟨rfl, hb⟩; replace HO964 := Aside0.mk (Kd.R_below (by (with_reducible repeat (first | apply Kd.R_alloc | apply Kd.R_drewN | apply Kd.R_drew)); exact HO964.out) hb); replace BK949 := kb BK949 hb; replace BK961 := kb BK961 hb; replace BK973 := kb BK973 hb; replace HB := hb_ w hb; (try clear hb); obtain ⟨hcz37_0, hcz37_1, hcz37_2, hcz37_3, hcz37_4, hcz37_5, hcz37_6⟩ := bc7 BK973.out; obtain ⟨hfz37_0, hfz37_1, hfz37_2, hfz37_3, hfz37_4, hfz37_5, hfz37_6⟩ := bf7 BK973.out) | (go_at_call 6; (with_reducible refine (span_Has.calls k t965 t966 t967 t968 t969 t970 t971 5 4 t976 _ A13.out).mono ?_); rintro e w38 ⟨rfl, hb⟩; replace HO964 := Aside0.mk (Kd.R_below (by (with_reducible repeat (first | apply Kd.R_alloc | apply Kd.R_drewN | apply Kd.R_drew)); exact HO964.out) hb); replace BK949 := kb BK949 hb; replace BK961 := kb BK961 hb; replace BK973 := kb BK973 hb; replace HB := hb_ w hb; (try clear hb); )); go_ret; exact en_
   · replace c12 := Bool.eq_false_iff.mpr c12; subst c12; rw [if_neg (show ¬ (false = true) by decide)] at H; cases H
  · rw [if_neg c10] at H; cases H
 · rw [if_neg c8] at H; cases H
def serinettelaw03_SpanSays.j0 : Nat → Bool → Int → Int → Int → Int → Int → Bool → Bool → Int → Int → Int → Int → Int → Bool → Bool → Int → Int → Option (Bool)
 | 0, _, _, _, _, _, _, _, _, _, _, _, _, _, _, _, _, _ => none
 | k + 1, x36, x978000, x978001, x978002, x978003, x978004, x978005, x978006, x979000, x979001, x979002, x979003, x979004, x979005, x979006, x980000, x980001 => if x36 = true then (some false) else ((span_Join.f k x978000 x978001 x978002 x978003 x978004 x978005 x978006 x979000 x979001 x979002 x979003 x979004 x979005 x979006).bind fun bt988 => ((serinetteref03_Join.f k x978000 x978001 x978002 x978003 x978004 x978005 x978006 x979000 x979001 x979002 x979003 x979004 x979005 x979006).bind fun bt995 => (if ((bt988.1 == bt995.1 && (bt988.2.1 == bt995.2.1)) && ((bt988.2.2.1 == bt995.2.2.1 && (bt988.2.2.2.1 == bt995.2.2.2.1)) && (bt988.2.2.2.2.1 == bt995.2.2.2.2.1 && (bt988.2.2.2.2.2.1 == bt995.2.2.2.2.2.1 && (bt988.2.2.2.2.2.2 == bt995.2.2.2.2.2.2))))) = true then ((span_Meet.f k x978000 x978001 x978002 x978003 x978004 x978005 x978006 x979000 x979001 x979002 x979003 x979004 x979005 x979006).bind fun bt1002 => ((serinetteref03_Meet.f k x978000 x978001 x978002 x978003 x978004 x978005 x978006 x979000 x979001 x979002 x979003 x979004 x979005 x979006).bind fun bt1009 => (if ((bt1002.1 == bt1009.1 && (bt1002.2.1 == bt1009.2.1)) && ((bt1002.2.2.1 == bt1009.2.2.1 && (bt1002.2.2.2.1 == bt1009.2.2.2.1)) && (bt1002.2.2.2.2.1 == bt1009.2.2.2.2.1 && (bt1002.2.2.2.2.2.1 == bt1009.2.2.2.2.2.1 && (bt1002.2.2.2.2.2.2 == bt1009.2.2.2.2.2.2))))) = true then ((span_Widen.f k x978000 x978001 x978002 x978003 x978004 x978005 x978006 x979000 x979001 x979002 x979003 x979004 x979005 x979006).bind fun bt1016 => ((serinetteref03_Widen.f k x978000 x978001 x978002 x978003 x978004 x978005 x978006 x979000 x979001 x979002 x979003 x979004 x979005 x979006).bind fun bt1023 => (if ((bt1016.1 == bt1023.1 && (bt1016.2.1 == bt1023.2.1)) && ((bt1016.2.2.1 == bt1023.2.2.1 && (bt1016.2.2.2.1 == bt1023.2.2.2.1)) && (bt1016.2.2.2.2.1 == bt1023.2.2.2.2.1 && (bt1016.2.2.2.2.2.1 == bt1023.2.2.2.2.2.1 && (bt1016.2.2.2.2.2.2 == bt1023.2.2.2.2.2.2))))) = true then ((span_Point.f k x980000 x980001).bind fun bt1030 => ((serinetteref03_Point.f k x980000 x980001).bind fun bt1037 => (if ((bt1030.1 == bt1037.1 && (bt1030.2.1 == bt1037.2.1)) && ((bt1030.2.2.1 == bt1037.2.2.1 && (bt1030.2.2.2.1 == bt1037.2.2.2.1)) && (bt1030.2.2.2.2.1 == bt1037.2.2.2.2.1 && (bt1030.2.2.2.2.2.1 == bt1037.2.2.2.2.2.1 && (bt1030.2.2.2.2.2.2 == bt1037.2.2.2.2.2.2))))) = true then ((span_All.f).bind fun bt1044 => ((serinetteref03_All.f).bind fun bt1051 => (if ((bt1044.1 == bt1051.1 && (bt1044.2.1 == bt1051.2.1)) && ((bt1044.2.2.1 == bt1051.2.2.1 && (bt1044.2.2.2.1 == bt1051.2.2.2.1)) && (bt1044.2.2.2.2.1 == bt1051.2.2.2.2.1 && (bt1044.2.2.2.2.2.1 == bt1051.2.2.2.2.2.1 && (bt1044.2.2.2.2.2.2 == bt1051.2.2.2.2.2.2))))) = true then ((serinettelaw03_awake.f k).bind fun t1058 => (some t1058)) else (some false)))) else (some false)))) else (some false)))) else (some false)))) else (some false))))
def serinettelaw03_SpanSays.f (k : Nat) (a0_0 : Int) (a0_1 : Int) (a0_2 : Int) (a0_3 : Int) (a0_4 : Int) (a0_5 : Bool) (a0_6 : Bool) (a1_0 : Int) (a1_1 : Int) (a1_2 : Int) (a1_3 : Int) (a1_4 : Int) (a1_5 : Bool) (a1_6 : Bool) (a2_0 : Int) (a2_1 : Int) : Option (Bool) := (span_Valid.f k a0_0 a0_1 a0_2 a0_3 a0_4 a0_5 a0_6).bind fun t980 => ((serinetteref03_Valid.f k a0_0 a0_1 a0_2 a0_3 a0_4 a0_5 a0_6).bind fun t981 => (if (t980 != t981) = true then (serinettelaw03_SpanSays.j0 k true a0_0 a0_1 a0_2 a0_3 a0_4 a0_5 a0_6 a1_0 a1_1 a1_2 a1_3 a1_4 a1_5 a1_6 a2_0 a2_1) else ((span_Has.f k a0_0 a0_1 a0_2 a0_3 a0_4 a0_5 a0_6 a2_0 a2_1).bind fun t982 => ((serinetteref03_Has.f k a0_0 a0_1 a0_2 a0_3 a0_4 a0_5 a0_6 a2_0 a2_1).bind fun t983 => (if (t982 != t983) = true then (serinettelaw03_SpanSays.j0 k true a0_0 a0_1 a0_2 a0_3 a0_4 a0_5 a0_6 a1_0 a1_1 a1_2 a1_3 a1_4 a1_5 a1_6 a2_0 a2_1) else ((span_Within.f k a0_0 a0_1 a0_2 a0_3 a0_4 a0_5 a0_6 a1_0 a1_1 a1_2 a1_3 a1_4 a1_5 a1_6).bind fun t984 => ((serinetteref03_Within.f k a0_0 a0_1 a0_2 a0_3 a0_4 a0_5 a0_6 a1_0 a1_1 a1_2 a1_3 a1_4 a1_5 a1_6).bind fun t985 => (if (t984 != t985) = true then (serinettelaw03_SpanSays.j0 k true a0_0 a0_1 a0_2 a0_3 a0_4 a0_5 a0_6 a1_0 a1_1 a1_2 a1_3 a1_4 a1_5 a1_6 a2_0 a2_1) else ((span_Text.f k a0_0 a0_1 a0_2 a0_3 a0_4 a0_5 a0_6).bind fun t986 => ((serinetteref03_Text.f k a0_0 a0_1 a0_2 a0_3 a0_4 a0_5 a0_6).bind fun t987 => (serinettelaw03_SpanSays.j0 k (t986.toList != t987.toList) a0_0 a0_1 a0_2 a0_3 a0_4 a0_5 a0_6 a1_0 a1_1 a1_2 a1_3 a1_4 a1_5 a1_6 a2_0 a2_1)))))))))))
theorem serinettelaw03_SpanSays.mono_l : ∀ k, (∀ y0 y1 y2 y3 y4 y5 y6 y7 y8 y9 y10 y11 y12 y13 y14 y15 y16, LeO (serinettelaw03_SpanSays.j0 k y0 y1 y2 y3 y4 y5 y6 y7 y8 y9 y10 y11 y12 y13 y14 y15 y16) (serinettelaw03_SpanSays.j0 (k + 1) y0 y1 y2 y3 y4 y5 y6 y7 y8 y9 y10 y11 y12 y13 y14 y15 y16))
 | 0 => fun _ _ _ _ _ _ _ _ _ _ _ _ _ _ _ _ _ r h => by simp [serinettelaw03_SpanSays.j0] at h
 | k + 1 => by
  have ih0 := serinettelaw03_SpanSays.mono_l k
  ·
   intro y0 y1 y2 y3 y4 y5 y6 y7 y8 y9 y10 y11 y12 y13 y14 y15 y16
   unfold serinettelaw03_SpanSays.j0
   repeat' first
   | (with_reducible exact ih0 _ _ _ _ _ _ _ _ _ _ _ _ _ _ _ _ _)
   | (with_reducible exact serinettelaw03_awake.mono _)
   | (with_reducible exact serinetteref03_Has.mono _ _ _ _ _ _ _ _ _ _)
   | (with_reducible exact serinetteref03_Join.mono _ _ _ _ _ _ _ _ _ _ _ _ _ _ _)
   | (with_reducible exact serinetteref03_Meet.mono _ _ _ _ _ _ _ _ _ _ _ _ _ _ _)
   | (with_reducible exact serinetteref03_Point.mono _ _ _)
   | (with_reducible exact serinetteref03_Text.mono _ _ _ _ _ _ _ _)
   | (with_reducible exact serinetteref03_Valid.mono _ _ _ _ _ _ _ _)
   | (with_reducible exact serinetteref03_Widen.mono _ _ _ _ _ _ _ _ _ _ _ _ _ _ _)
   | (with_reducible exact serinetteref03_Within.mono _ _ _ _ _ _ _ _ _ _ _ _ _ _ _)
   | (with_reducible exact span_Has.mono _ _ _ _ _ _ _ _ _ _)
   | (with_reducible exact span_Join.mono _ _ _ _ _ _ _ _ _ _ _ _ _ _ _)
   | (with_reducible exact span_Meet.mono _ _ _ _ _ _ _ _ _ _ _ _ _ _ _)
   | (with_reducible exact span_Point.mono _ _ _)
   | (with_reducible exact span_Text.mono _ _ _ _ _ _ _ _)
   | (with_reducible exact span_Valid.mono _ _ _ _ _ _ _ _)
   | (with_reducible exact span_Widen.mono _ _ _ _ _ _ _ _ _ _ _ _ _ _ _)
   | (with_reducible exact span_Within.mono _ _ _ _ _ _ _ _ _ _ _ _ _ _ _)
   | (with_reducible exact LeO.refl _)
   | (with_reducible exact LeO.none _)
   | (with_reducible refine LeO.ite ?_ ?_)
   | (with_reducible refine LeO.bind ?_ (fun _ => ?_))
   | exact ih0 _ _ _ _ _ _ _ _ _ _ _ _ _ _ _ _ _
   | exact serinettelaw03_awake.mono _
   | exact serinetteref03_Has.mono _ _ _ _ _ _ _ _ _ _
   | exact serinetteref03_Join.mono _ _ _ _ _ _ _ _ _ _ _ _ _ _ _
   | exact serinetteref03_Meet.mono _ _ _ _ _ _ _ _ _ _ _ _ _ _ _
   | exact serinetteref03_Point.mono _ _ _
   | exact serinetteref03_Text.mono _ _ _ _ _ _ _ _
   | exact serinetteref03_Valid.mono _ _ _ _ _ _ _ _
   | exact serinetteref03_Widen.mono _ _ _ _ _ _ _ _ _ _ _ _ _ _ _
   | exact serinetteref03_Within.mono _ _ _ _ _ _ _ _ _ _ _ _ _ _ _
   | exact span_Has.mono _ _ _ _ _ _ _ _ _ _
   | exact span_Join.mono _ _ _ _ _ _ _ _ _ _ _ _ _ _ _
   | exact span_Meet.mono _ _ _ _ _ _ _ _ _ _ _ _ _ _ _
   | exact span_Point.mono _ _ _
   | exact span_Text.mono _ _ _ _ _ _ _ _
   | exact span_Valid.mono _ _ _ _ _ _ _ _
   | exact span_Widen.mono _ _ _ _ _ _ _ _ _ _ _ _ _ _ _
   | exact span_Within.mono _ _ _ _ _ _ _ _ _ _ _ _ _ _ _
   | exact LeO.none _
   | refine LeO.ite ?_ ?_
   | refine LeO.bind ?_ (fun _ => ?_)
theorem serinettelaw03_SpanSays.mono : ∀ a0 a1 a2 a3 a4 a5 a6 a7 a8 a9 a10 a11 a12 a13 a14 a15 k, LeO (serinettelaw03_SpanSays.f k a0 a1 a2 a3 a4 a5 a6 a7 a8 a9 a10 a11 a12 a13 a14 a15) (serinettelaw03_SpanSays.f (k + 1) a0 a1 a2 a3 a4 a5 a6 a7 a8 a9 a10 a11 a12 a13 a14 a15) := by
 intro a0 a1 a2 a3 a4 a5 a6 a7 a8 a9 a10 a11 a12 a13 a14 a15 k
 have ih0 := serinettelaw03_SpanSays.mono_l k
 unfold serinettelaw03_SpanSays.f
 repeat' first
   | (with_reducible exact ih0 _ _ _ _ _ _ _ _ _ _ _ _ _ _ _ _ _)
   | (with_reducible exact serinettelaw03_awake.mono _)
   | (with_reducible exact serinetteref03_Has.mono _ _ _ _ _ _ _ _ _ _)
   | (with_reducible exact serinetteref03_Join.mono _ _ _ _ _ _ _ _ _ _ _ _ _ _ _)
   | (with_reducible exact serinetteref03_Meet.mono _ _ _ _ _ _ _ _ _ _ _ _ _ _ _)
   | (with_reducible exact serinetteref03_Point.mono _ _ _)
   | (with_reducible exact serinetteref03_Text.mono _ _ _ _ _ _ _ _)
   | (with_reducible exact serinetteref03_Valid.mono _ _ _ _ _ _ _ _)
   | (with_reducible exact serinetteref03_Widen.mono _ _ _ _ _ _ _ _ _ _ _ _ _ _ _)
   | (with_reducible exact serinetteref03_Within.mono _ _ _ _ _ _ _ _ _ _ _ _ _ _ _)
   | (with_reducible exact span_Has.mono _ _ _ _ _ _ _ _ _ _)
   | (with_reducible exact span_Join.mono _ _ _ _ _ _ _ _ _ _ _ _ _ _ _)
   | (with_reducible exact span_Meet.mono _ _ _ _ _ _ _ _ _ _ _ _ _ _ _)
   | (with_reducible exact span_Point.mono _ _ _)
   | (with_reducible exact span_Text.mono _ _ _ _ _ _ _ _)
   | (with_reducible exact span_Valid.mono _ _ _ _ _ _ _ _)
   | (with_reducible exact span_Widen.mono _ _ _ _ _ _ _ _ _ _ _ _ _ _ _)
   | (with_reducible exact span_Within.mono _ _ _ _ _ _ _ _ _ _ _ _ _ _ _)
   | (with_reducible exact LeO.refl _)
   | (with_reducible exact LeO.none _)
   | (with_reducible refine LeO.ite ?_ ?_)
   | (with_reducible refine LeO.bind ?_ (fun _ => ?_))
   | exact ih0 _ _ _ _ _ _ _ _ _ _ _ _ _ _ _ _ _
   | exact serinettelaw03_awake.mono _
   | exact serinetteref03_Has.mono _ _ _ _ _ _ _ _ _ _
   | exact serinetteref03_Join.mono _ _ _ _ _ _ _ _ _ _ _ _ _ _ _
   | exact serinetteref03_Meet.mono _ _ _ _ _ _ _ _ _ _ _ _ _ _ _
   | exact serinetteref03_Point.mono _ _ _
   | exact serinetteref03_Text.mono _ _ _ _ _ _ _ _
   | exact serinetteref03_Valid.mono _ _ _ _ _ _ _ _
   | exact serinetteref03_Widen.mono _ _ _ _ _ _ _ _ _ _ _ _ _ _ _
   | exact serinetteref03_Within.mono _ _ _ _ _ _ _ _ _ _ _ _ _ _ _
   | exact span_Has.mono _ _ _ _ _ _ _ _ _ _
   | exact span_Join.mono _ _ _ _ _ _ _ _ _ _ _ _ _ _ _
   | exact span_Meet.mono _ _ _ _ _ _ _ _ _ _ _ _ _ _ _
   | exact span_Point.mono _ _ _
   | exact span_Text.mono _ _ _ _ _ _ _ _
   | exact span_Valid.mono _ _ _ _ _ _ _ _
   | exact span_Widen.mono _ _ _ _ _ _ _ _ _ _ _ _ _ _ _
   | exact span_Within.mono _ _ _ _ _ _ _ _ _ _ _ _ _ _ _
   | exact LeO.none _
   | refine LeO.ite ?_ ?_
   | refine LeO.bind ?_ (fun _ => ?_)
def serinettelaw03_SpanSays.T1 : Bool × List (List Nat × List Nat) := (true, [([], []), ([0], [0]), ([], []), ([2, 1], [2]), ([1, 3], [1, 3]), ([4, 3], [4]), ([5], [5]), ([5], [5]), ([6, 7, 5, 5], [5, 6, 7]), ([5], [5]), ([5], [5]), ([9, 10, 8, 5], [5, 9, 10]), ([8, 11, 5], [5, 8, 11]), ([5, 12], [5, 12]), ([13, 11], [13]), ([14], [14]), ([14], [14]), ([15, 16, 14, 14], [14, 15, 16]), ([14], [14]), ([14], [14]), ([18, 19, 17, 14], [14, 18, 19]), ([17, 20, 14], [14, 17, 20]), ([14, 21], [14, 21]), ([22, 20], [22]), ([23], [23]), ([24, 23, 23], [23, 24]), ([23], [23]), ([26, 25, 23], [23, 26]), ([25, 27, 23], [23, 25, 27]), ([23, 28], [23, 28])])
def serinettelaw03_SpanSays.B1 : List Nat := [0, 1, 0, 7, 15, 31, 63, 63, 255, 63, 63, 2047, 4095, 8191, 16383, 32767, 32767, 131071, 32767, 32767, 1048575, 2097151, 4194303, 8388607, 16777215, 33554431, 16777215, 134217727, 268435455, 536870911]
theorem serinettelaw03_SpanSays.tab1 : rtab .any (opsOf Tryz.f3 1) = serinettelaw03_SpanSays.T1 := by kernel_rfl
theorem serinettelaw03_SpanSays.bits1 : waitsOk serinettelaw03_SpanSays.T1.2 serinettelaw03_SpanSays.B1 = true := by kernel_rfl
def serinettelaw03_SpanSays.T3 : Bool × List (List Nat × List Nat) := (true, [([], []), ([], []), ([0, 1], [0, 1]), ([], []), ([], []), ([3, 4, 2], [3, 4]), ([2, 5], [2, 5]), ([6, 5], [6]), ([7], [7]), ([7], [7]), ([8, 9, 7, 7], [7, 8, 9]), ([7], [7]), ([7], [7]), ([11, 12, 10, 7], [7, 11, 12]), ([10, 13, 7], [7, 10, 13]), ([7, 14], [7, 14]), ([15, 13], [15]), ([16], [16]), ([16], [16]), ([17, 18, 16, 16], [16, 17, 18]), ([16], [16]), ([16], [16]), ([20, 21, 19, 16], [16, 20, 21]), ([19, 22, 16], [16, 19, 22]), ([16, 23], [16, 23]), ([24, 22], [24]), ([25], [25]), ([26, 25, 25], [25, 26]), ([25], [25]), ([28, 27, 25], [25, 28]), ([27, 29, 25], [25, 27, 29]), ([25, 30], [25, 30]), ([31, 29], [31]), ([32, 32], [32]), ([33, 32], [32]), ([33, 34, 32], [32, 33, 34]), ([32, 35], [32, 35]), ([36, 34], [36]), ([37, 37], [37]), ([37, 38], [37, 38]), ([39, 38, 0, 1, 2, 3, 4, 5, 6, 7, 8, 9, 10, 11, 12, 13, 14, 15, 16, 17, 18, 19, 20, 21, 22, 23, 24, 25, 26, 27, 28, 29, 30, 31, 32, 33, 34, 35, 36, 37, 38, 39], [39])])
def serinettelaw03_SpanSays.B3 : List Nat := [0, 0, 3, 0, 0, 31, 63, 127, 255, 255, 1023, 255, 255, 8191, 16383, 32767, 65535, 131071, 131071, 524287, 131071, 131071, 4194303, 8388607, 16777215, 33554431, 67108863, 134217727, 67108863, 536870911, 1073741823, 2147483647, 4294967295, 8589934591, 17179869183, 34359738367, 68719476735, 137438953471, 274877906943, 549755813887, 1099511627775]
theorem serinettelaw03_SpanSays.tab3 : rtab .any (opsOf Tryz.f3 3) = serinettelaw03_SpanSays.T3 := by kernel_rfl
theorem serinettelaw03_SpanSays.bits3 : waitsOk serinettelaw03_SpanSays.T3.2 serinettelaw03_SpanSays.B3 = true := by kernel_rfl
set_option maxHeartbeats 8000000 in
set_option maxRecDepth 100000 in
theorem serinettelaw03_SpanSays.calls (k : Nat) (a0_0 : Int) (a0_1 : Int) (a0_2 : Int) (a0_3 : Int) (a0_4 : Int) (a0_5 : Bool) (a0_6 : Bool) (a1_0 : Int) (a1_1 : Int) (a1_2 : Int) (a1_3 : Int) (a1_4 : Int) (a1_5 : Bool) (a1_6 : Bool) (a2_0 : Int) (a2_1 : Int) (r : Bool) (hr : Aside0 (r = true)) (w : World) (htab : FI.Tb w) (h : serinettelaw03_SpanSays.f k a0_0 a0_1 a0_2 a0_3 a0_4 a0_5 a0_6 a1_0 a1_1 a1_2 a1_3 a1_4 a1_5 a1_6 a2_0 a2_1 = some r) :
  Calls Tryz.prog 3 #[.agg #[.int .i64 a0_0, .int .i64 a0_1, .int .i64 a0_2, .int .i64 a0_3, .int .i64 a0_4, .bool a0_5, .bool a0_6], .agg #[.int .i64 a1_0, .int .i64 a1_1, .int .i64 a1_2, .int .i64 a1_3, .int .i64 a1_4, .bool a1_5, .bool a1_6], .agg #[.int .i64 a2_0, .int .i64 a2_1]] w fun e w' => e = .returned (.bool r) ∧ Below w.heap.size w w' := by
 have HTb := Aside0.mk htab; clear htab
 have hu25 := Tryz.underlying25; have hu23 := Tryz.underlying23; have HB := Aside0.mk (Below.refl w.heap.size w); have H : ((span_Valid.f k a0_0 a0_1 a0_2 a0_3 a0_4 a0_5 a0_6).bind fun t980 => ((serinetteref03_Valid.f k a0_0 a0_1 a0_2 a0_3 a0_4 a0_5 a0_6).bind fun t981 => (if (t980 != t981) = true then (serinettelaw03_SpanSays.j0 k true a0_0 a0_1 a0_2 a0_3 a0_4 a0_5 a0_6 a1_0 a1_1 a1_2 a1_3 a1_4 a1_5 a1_6 a2_0 a2_1) else ((span_Has.f k a0_0 a0_1 a0_2 a0_3 a0_4 a0_5 a0_6 a2_0 a2_1).bind fun t982 => ((serinetteref03_Has.f k a0_0 a0_1 a0_2 a0_3 a0_4 a0_5 a0_6 a2_0 a2_1).bind fun t983 => (if (t982 != t983) = true then (serinettelaw03_SpanSays.j0 k true a0_0 a0_1 a0_2 a0_3 a0_4 a0_5 a0_6 a1_0 a1_1 a1_2 a1_3 a1_4 a1_5 a1_6 a2_0 a2_1) else ((span_Within.f k a0_0 a0_1 a0_2 a0_3 a0_4 a0_5 a0_6 a1_0 a1_1 a1_2 a1_3 a1_4 a1_5 a1_6).bind fun t984 => ((serinetteref03_Within.f k a0_0 a0_1 a0_2 a0_3 a0_4 a0_5 a0_6 a1_0 a1_1 a1_2 a1_3 a1_4 a1_5 a1_6).bind fun t985 => (if (t984 != t985) = true then (serinettelaw03_SpanSays.j0 k true a0_0 a0_1 a0_2 a0_3 a0_4 a0_5 a0_6 a1_0 a1_1 a1_2 a1_3 a1_4 a1_5 a1_6 a2_0 a2_1) else ((span_Text.f k a0_0 a0_1 a0_2 a0_3 a0_4 a0_5 a0_6).bind fun t986 => ((serinetteref03_Text.f k a0_0 a0_1 a0_2 a0_3 a0_4 a0_5 a0_6).bind fun t987 => (serinettelaw03_SpanSays.j0 k (t986.toList != t987.toList) a0_0 a0_1 a0_2 a0_3 a0_4 a0_5 a0_6 a1_0 a1_1 a1_2 a1_3 a1_4 a1_5 a1_6 a2_0 a2_1)))))))))))) = some r := h; clear h; have HC4 := Aside0.mk H; clear H; go_enter Tryz.func3, Tryz.ntmps3; go_upto_region 1 with (first | ((with_reducible refine gate_dst (N := 3) rfl ?_); refine bx_ 3 #[.int .i64 a0_0, .int .i64 a0_1, .int .i64 a0_2, .int .i64 a0_3, .int .i64 a0_4, .bool a0_5, .bool a0_6] 25 ?_; intro gb977 hg w5 BK977 hb; have GE977 := hz_ hg HB; replace HB := hs HB hb; clear hb hg) | ((with_reducible refine gate_dst (N := 4) rfl ?_); refine bx_ 4 #[.int .i64 a1_0, .int .i64 a1_1, .int .i64 a1_2, .int .i64 a1_3, .int .i64 a1_4, .bool a1_5, .bool a1_6] 25 ?_; intro gb978 hg w6 BK978 hb; have GE978 := ge_ w hg; have NB977_978 := nlk hg BK977; have NB978_977 := ngk hg BK977; replace BK977 := kb BK977 hb; replace HB := hb_ w hb; clear hb hg) | ((with_reducible refine gate_dst (N := 5) rfl ?_); refine bx_ 5 #[.int .i64 a2_0, .int .i64 a2_1] 23 ?_; intro gb979 hg w7 BK979 hb; have GE979 := ge_ w hg; have NB977_979 := nlk hg BK977; have NB979_977 := ngk hg BK977; have NB978_979 := nlk hg BK978; have NB979_978 := ngk hg BK978; replace BK977 := kb BK977 hb; replace BK978 := kb BK978 hb; replace HB := hb_ w hb; clear hb hg)); (try simp only [Act.put, List.setIfInBounds_toArray, List.set_cons_zero, List.set_cons_succ])
 go_cut [36] (fun v36 wc => ∃ (kq : Nat) (x36_3 : Bool), v36 = .bool x36_3 ∧ Aside0 (serinettelaw03_SpanSays.j0 kq x36_3 a0_0 a0_1 a0_2 a0_3 a0_4 a0_5 a0_6 a1_0 a1_1 a1_2 a1_3 a1_4 a1_5 a1_6 a2_0 a2_1 = some r) ∧ Aside0 (kq ≤ k) ∧ Aside0 (wc.heap[gb977]? = some (.cells #[.int .i64 a0_0, .int .i64 a0_1, .int .i64 a0_2, .int .i64 a0_3, .int .i64 a0_4, .bool a0_5, .bool a0_6] 25 (0, 0))) ∧ Aside0 (wc.heap[gb978]? = some (.cells #[.int .i64 a1_0, .int .i64 a1_1, .int .i64 a1_2, .int .i64 a1_3, .int .i64 a1_4, .bool a1_5, .bool a1_6] 25 (0, 0))) ∧ Aside0 (wc.heap[gb979]? = some (.cells #[.int .i64 a2_0, .int .i64 a2_1] 23 (0, 0))) ∧ Aside0 (Below w.heap.size w wc))
 case first =>
  have H := HC4.out; clear HC4; replace H := Option.bind_eq_some_iff.mp H; obtain ⟨t980, A80, H⟩ := H; (try dsimp only at H); have A8 := Aside0.mk A80; clear A80; replace H := Option.bind_eq_some_iff.mp H; obtain ⟨t981, A90, H⟩ := H; (try dsimp only at H); have A9 := Aside0.mk A90; clear A90; by_cases c10 : (t980 != t981) = true
  ·
   rw [if_pos c10] at H; have c10b0 : (t980 != t981) = true := c10; (try (have c10b1 : decide (t980 = t981) = false := by simpa using c10)); (try (have c10b2 : (t980 == t981) = false := by simpa using c10)); (try (have c10b3 : ¬ (t980 = t981) := by simpa using c10)); clear c10; (first | rw [c10b0] | (simp only [i64_w, i32_w]; rw [c10b0]) | skip); have H' := Aside0.mk H; clear H; (try go_wp2); replace BK977 := kd BK977; replace BK978 := kd BK978; replace BK979 := kd BK979; replace HB := Aside0.mk (below_drew1 HB.out); refine start_ (n := 30) (S := fun w' => w'.cell? ⟨gb977, 0, none⟩ = some (.int .i64 a0_0) ∧ w'.cell? ⟨gb977, 1, none⟩ = some (.int .i64 a0_1) ∧ w'.cell? ⟨gb977, 2, none⟩ = some (.int .i64 a0_2) ∧ w'.cell? ⟨gb977, 3, none⟩ = some (.int .i64 a0_3) ∧ w'.cell? ⟨gb977, 4, none⟩ = some (.int .i64 a0_4) ∧ w'.cell? ⟨gb977, 5, none⟩ = some (.bool a0_5) ∧ w'.cell? ⟨gb977, 6, none⟩ = some (.bool a0_6)) (ds := []) (bA 30 0) (by kernel_rfl) rfl rfl ⟨(blk_cell BK977.out 0).trans rfl, (blk_cell BK977.out 1).trans rfl, (blk_cell BK977.out 2).trans rfl, (blk_cell BK977.out 3).trans rfl, (blk_cell BK977.out 4).trans rfl, (blk_cell BK977.out 5).trans rfl, (blk_cell BK977.out 6).trans rfl⟩ (fun hHeld => ?_); refine with_tabW serinettelaw03_SpanSays.tab1 serinettelaw03_SpanSays.bits1 (fun HT_ HW_ => ?_); generalize w7.drew = w11 at BK977 BK978 BK979 HB hHeld ⊢; have hH0 := hHeld; have HBW := hbw w11; refine take_ (i := 0) (N := some 7) (v := ?_) (a' := ?_) (bA 30 1) rfl rfl (take_ofW HT_.out HW_.out (by kernel_rfl)) (fun _ _ _ h => h) (Or.inl ⟨by rfl, ?_⟩) hHeld ?_ ?_; rotate_left
   · rintro w' ⟨s0, s1, s2, s3, s4, s5, s6⟩; go_simp; with_reducible rfl
   rotate_left
   · simp only [ap]; rfl
   refine take_ (i := 2) (N := some 9) (v := ?_) (a' := ?_) (bA 30 5) rfl rfl (take_ofW HT_.out HW_.out (by kernel_rfl)) (fun _ _ _ h => h) (Or.inl ⟨by rfl, ?_⟩) hHeld ?_ ?_; rotate_left
   · rintro w' ⟨s0, s1, s2, s3, s4, s5, s6⟩; go_simp; with_reducible rfl
   rotate_left
   · simp only [ap]; rfl
   refine one_ (i := 1) (N := some 8) (bA 30 7) rfl rfl (one_of HT_.out (by kernel_rfl)) (by decide) (fun K hK => ?_); refine goes_ Tryz.func4 (by kernel_rfl) rfl #[.agg #[.int .i64 a0_0, .int .i64 a0_1, .int .i64 a0_2, .int .i64 a0_3, .int .i64 a0_4, .bool a0_5, .bool a0_6]] (by rfl) rfl rfl (by (try simp only [mp]); first | done | rfl | (simp only [ld]; rfl)) ?_; (with_reducible refine (span_Valid.calls k a0_0 a0_1 a0_2 a0_3 a0_4 a0_5 a0_6 t980 _ A8.out).mono ?_); rintro e w12 ⟨rfl, hb⟩; refine ⟨_, rfl, ?_⟩; replace HBW := hs HBW hb; clear hb; refine hK.out _ _ (hs7 HBW.out hH0) (fun hHeld => ?_); clear hK K; refine norm_ (a' := ?_) ?_ ?_; rotate_left
   · (show Act.put _ (some 8) _ = _); simp only [ap]; rfl
   refine one_ (i := 3) (N := some 10) (bA 30 15) rfl rfl (one_of HT_.out (by kernel_rfl)) (by decide) (fun K hK => ?_); refine goes_ Tryz.func5 (by kernel_rfl) rfl #[.agg #[.int .i64 a0_0, .int .i64 a0_1, .int .i64 a0_2, .int .i64 a0_3, .int .i64 a0_4, .bool a0_5, .bool a0_6]] (by rfl) rfl rfl (by (try simp only [mp]); first | done | rfl | (simp only [ld]; rfl)) ?_; (with_reducible refine (serinetteref03_Valid.calls k a0_0 a0_1 a0_2 a0_3 a0_4 a0_5 a0_6 t981 _ A9.out).mono ?_); rintro e w13 ⟨rfl, hb⟩; refine ⟨_, rfl, ?_⟩; replace HBW := hs HBW hb; clear hb; refine hK.out _ _ (hs7 HBW.out hH0) (fun hHeld => ?_); clear hK K; refine norm_ (a' := ?_) ?_ ?_; rotate_left
   · (show Act.put _ (some 10) _ = _); simp only [ap]; rfl
   refine pure_ (i := 4) (N := some 11) (v := ?_) (a' := ?_) (bA 30 31) rfl rfl (any_of HT_.out (by kernel_rfl)) (fun _ _ _ h => h) (Or.inl ⟨by rfl, ?_⟩) ?_ ?_; rotate_left
   · intro w'; go_simp; with_reducible rfl
   rotate_left
   · simp only [ap]; rfl
   refine pure_ (i := 5) (N := some 12) (v := ?_) (a' := ?_) (bA 30 63) rfl rfl (any_of HT_.out (by kernel_rfl)) (fun _ _ _ h => h) (Or.inl ⟨by rfl, ?_⟩) ?_ ?_; rotate_left
   · intro w'; go_simp; with_reducible rfl
   rotate_left
   · simp only [ap]; rfl
   refine pure_ (i := 6) (N := some 13) (v := undef) (a' := ?_) (bA 30 127) rfl rfl (any_of HT_.out (by kernel_rfl)) (fun _ _ _ h => h) (Or.inr ⟨by rfl, rfl⟩) ?_ ?_; rotate_left
   · simp only [ap]; rfl
   refine pure_ (i := 7) (N := some 14) (v := undef) (a' := ?_) (bA 30 255) rfl rfl (any_of HT_.out (by kernel_rfl)) (fun _ _ _ h => h) (Or.inr ⟨by rfl, rfl⟩) ?_ ?_; rotate_left
   · simp only [ap]; rfl
   refine pure_ (i := 8) (N := some 15) (v := undef) (a' := ?_) (bA 30 511) rfl rfl (any_of HT_.out (by kernel_rfl)) (fun _ _ _ h => h) (Or.inr ⟨by rfl, rfl⟩) ?_ ?_; rotate_left
   · simp only [ap]; rfl
   refine pure_ (i := 9) (N := some 16) (v := undef) (a' := ?_) (bA 30 1023) rfl rfl (any_of HT_.out (by kernel_rfl)) (fun _ _ _ h => h) (Or.inr ⟨by rfl, rfl⟩) ?_ ?_; rotate_left
   · simp only [ap]; rfl
   refine pure_ (i := 10) (N := some 17) (v := undef) (a' := ?_) (bA 30 2047) rfl rfl (any_of HT_.out (by kernel_rfl)) (fun _ _ _ h => h) (Or.inr ⟨by rfl, rfl⟩) ?_ ?_; rotate_left
   · simp only [ap]; rfl
   refine pure_ (i := 11) (N := some 18) (v := undef) (a' := ?_) (bA 30 4095) rfl rfl (any_of HT_.out (by kernel_rfl)) (fun _ _ _ h => h) (Or.inr ⟨by rfl, rfl⟩) ?_ ?_; rotate_left
   · simp only [ap]; rfl
   refine pure_ (i := 12) (N := some 19) (v := undef) (a' := ?_) (bA 30 8191) rfl rfl (any_of HT_.out (by kernel_rfl)) (fun _ _ _ h => h) (Or.inr ⟨by rfl, rfl⟩) ?_ ?_; rotate_left
   · simp only [ap]; rfl
   refine pure_ (i := 13) (N := some 20) (v := ?_) (a' := ?_) (bA 30 16383) rfl rfl (any_of HT_.out (by kernel_rfl)) (fun _ _ _ h => h) (Or.inl ⟨by rfl, ?_⟩) ?_ ?_; rotate_left
   · intro w'; go_simp; with_reducible rfl
   rotate_left
   · simp only [ap]; rfl
   refine pure_ (i := 14) (N := some 21) (v := ?_) (a' := ?_) (bA 30 32767) rfl rfl (any_of HT_.out (by kernel_rfl)) (fun _ _ _ h => h) (Or.inl ⟨by rfl, ?_⟩) ?_ ?_; rotate_left
   · intro w'; go_simp; with_reducible rfl
   rotate_left
   · simp only [ap]; rfl
   refine pure_ (i := 15) (N := some 22) (v := undef) (a' := ?_) (bA 30 65535) rfl rfl (any_of HT_.out (by kernel_rfl)) (fun _ _ _ h => h) (Or.inr ⟨by rfl, rfl⟩) ?_ ?_; rotate_left
   · simp only [ap]; rfl
   refine pure_ (i := 16) (N := some 23) (v := undef) (a' := ?_) (bA 30 131071) rfl rfl (any_of HT_.out (by kernel_rfl)) (fun _ _ _ h => h) (Or.inr ⟨by rfl, rfl⟩) ?_ ?_; rotate_left
   · simp only [ap]; rfl
   refine pure_ (i := 17) (N := some 24) (v := undef) (a' := ?_) (bA 30 262143) rfl rfl (any_of HT_.out (by kernel_rfl)) (fun _ _ _ h => h) (Or.inr ⟨by rfl, rfl⟩) ?_ ?_; rotate_left
   · simp only [ap]; rfl
   refine pure_ (i := 18) (N := some 25) (v := undef) (a' := ?_) (bA 30 524287) rfl rfl (any_of HT_.out (by kernel_rfl)) (fun _ _ _ h => h) (Or.inr ⟨by rfl, rfl⟩) ?_ ?_; rotate_left
   · simp only [ap]; rfl
   refine pure_ (i := 19) (N := some 26) (v := undef) (a' := ?_) (bA 30 1048575) rfl rfl (any_of HT_.out (by kernel_rfl)) (fun _ _ _ h => h) (Or.inr ⟨by rfl, rfl⟩) ?_ ?_; rotate_left
   · simp only [ap]; rfl
   refine pure_ (i := 20) (N := some 27) (v := undef) (a' := ?_) (bA 30 2097151) rfl rfl (any_of HT_.out (by kernel_rfl)) (fun _ _ _ h => h) (Or.inr ⟨by rfl, rfl⟩) ?_ ?_; rotate_left
   · simp only [ap]; rfl
   refine pure_ (i := 21) (N := some 28) (v := undef) (a' := ?_) (bA 30 4194303) rfl rfl (any_of HT_.out (by kernel_rfl)) (fun _ _ _ h => h) (Or.inr ⟨by rfl, rfl⟩) ?_ ?_; rotate_left
   · simp only [ap]; rfl
   refine pure_ (i := 22) (N := some 29) (v := ?_) (a' := ?_) (bA 30 8388607) rfl rfl (any_of HT_.out (by kernel_rfl)) (fun _ _ _ h => h) (Or.inl ⟨by rfl, ?_⟩) ?_ ?_; rotate_left
   · intro w'; go_simp; with_reducible rfl
   rotate_left
   · simp only [ap]; rfl
   refine pure_ (i := 23) (N := some 30) (v := ?_) (a' := ?_) (bA 30 16777215) rfl rfl (any_of HT_.out (by kernel_rfl)) (fun _ _ _ h => h) (Or.inl ⟨by rfl, ?_⟩) ?_ ?_; rotate_left
   · intro w'; go_simp; with_reducible rfl
   rotate_left
   · simp only [ap]; rfl
   refine pure_ (i := 24) (N := some 31) (v := undef) (a' := ?_) (bA 30 33554431) rfl rfl (any_of HT_.out (by kernel_rfl)) (fun _ _ _ h => h) (Or.inr ⟨by rfl, rfl⟩) ?_ ?_; rotate_left
   · simp only [ap]; rfl
   refine pure_ (i := 25) (N := some 32) (v := undef) (a' := ?_) (bA 30 67108863) rfl rfl (any_of HT_.out (by kernel_rfl)) (fun _ _ _ h => h) (Or.inr ⟨by rfl, rfl⟩) ?_ ?_; rotate_left
   · simp only [ap]; rfl
   refine pure_ (i := 26) (N := some 33) (v := undef) (a' := ?_) (bA 30 134217727) rfl rfl (any_of HT_.out (by kernel_rfl)) (fun _ _ _ h => h) (Or.inr ⟨by rfl, rfl⟩) ?_ ?_; rotate_left
   · simp only [ap]; rfl
   refine pure_ (i := 27) (N := some 34) (v := undef) (a' := ?_) (bA 30 268435455) rfl rfl (any_of HT_.out (by kernel_rfl)) (fun _ _ _ h => h) (Or.inr ⟨by rfl, rfl⟩) ?_ ?_; rotate_left
   · simp only [ap]; rfl
   refine pure_ (i := 28) (N := some 35) (v := undef) (a' := ?_) (bA 30 536870911) rfl rfl (any_of HT_.out (by kernel_rfl)) (fun _ _ _ h => h) (Or.inr ⟨by rfl, rfl⟩) ?_ ?_; rotate_left
   · simp only [ap]; rfl
   refine pure_ (i := 29) (N := some 36) (v := ?_) (a' := ?_) (bA 30 1073741823) rfl rfl (any_of HT_.out (by kernel_rfl)) (fun _ _ _ h => h) (Or.inl ⟨by rfl, ?_⟩) ?_ ?_; rotate_left
   · intro w'; go_simp; with_reducible rfl
   rotate_left
   · simp only [ap]; rfl
   replace BK977 := kb BK977 HBW.out; replace BK978 := kb BK978 HBW.out; replace BK979 := kb BK979 HBW.out; replace HB := hs HB HBW.out; refine done_ (done_of HT_.out (by kernel_rfl)) ?_; clear HBW hH0; (try go_wp2); go_meet
   case rel => exact ⟨_, (true), (by first | rfl | (simp; done) | (simp [*]; done)), H', ⟨by first | omega | exact Nat.le_refl _⟩, ⟨bk BK977.out⟩, ⟨bk BK978.out⟩, ⟨bk BK979.out⟩, ab2_⟩
  ·
   rw [if_neg c10] at H; (have c10b0 : (t980 != t981) = false := by simpa using c10); (try (have c10b1 : decide (t980 = t981) = true := by simpa using c10)); (try (have c10b2 : (t980 == t981) = true := by simpa using c10)); clear c10; (first | rw [c10b0] | (simp only [i64_w, i32_w]; rw [c10b0]) | skip); replace H := Option.bind_eq_some_iff.mp H; obtain ⟨t982, A140, H⟩ := H; (try dsimp only at H); have A14 := Aside0.mk A140; clear A140; replace H := Option.bind_eq_some_iff.mp H; obtain ⟨t983, A150, H⟩ := H; (try dsimp only at H); have A15 := Aside0.mk A150; clear A150; by_cases c16 : (t982 != t983) = true
   ·
    rw [if_pos c16] at H; have c16b0 : (t982 != t983) = true := c16; (try (have c16b1 : decide (t982 = t983) = false := by simpa using c16)); (try (have c16b2 : (t982 == t983) = false := by simpa using c16)); (try (have c16b3 : ¬ (t982 = t983) := by simpa using c16)); clear c16; have H' := Aside0.mk H; clear H; (try go_wp2); replace BK977 := kd BK977; replace BK978 := kd BK978; replace BK979 := kd BK979; replace HB := Aside0.mk (below_drew1 HB.out); refine start_ (n := 30) (S := fun w' => w'.cell? ⟨gb977, 0, none⟩ = some (.int .i64 a0_0) ∧ w'.cell? ⟨gb977, 1, none⟩ = some (.int .i64 a0_1) ∧ w'.cell? ⟨gb977, 2, none⟩ = some (.int .i64 a0_2) ∧ w'.cell? ⟨gb977, 3, none⟩ = some (.int .i64 a0_3) ∧ w'.cell? ⟨gb977, 4, none⟩ = some (.int .i64 a0_4) ∧ w'.cell? ⟨gb977, 5, none⟩ = some (.bool a0_5) ∧ w'.cell? ⟨gb977, 6, none⟩ = some (.bool a0_6) ∧ w'.cell? ⟨gb979, 0, none⟩ = some (.int .i64 a2_0) ∧ w'.cell? ⟨gb979, 1, none⟩ = some (.int .i64 a2_1)) (ds := []) (bA 30 0) (by kernel_rfl) rfl rfl ⟨(blk_cell BK977.out 0).trans rfl, (blk_cell BK977.out 1).trans rfl, (blk_cell BK977.out 2).trans rfl, (blk_cell BK977.out 3).trans rfl, (blk_cell BK977.out 4).trans rfl, (blk_cell BK977.out 5).trans rfl, (blk_cell BK977.out 6).trans rfl, (blk_cell BK979.out 0).trans rfl, (blk_cell BK979.out 1).trans rfl⟩ (fun hHeld => ?_); refine with_tabW serinettelaw03_SpanSays.tab1 serinettelaw03_SpanSays.bits1 (fun HT_ HW_ => ?_); generalize w7.drew = w17 at BK977 BK978 BK979 HB hHeld ⊢; have hH0 := hHeld; have HBW := hbw w17; refine take_ (i := 0) (N := some 7) (v := ?_) (a' := ?_) (bA 30 1) rfl rfl (take_ofW HT_.out HW_.out (by kernel_rfl)) (fun _ _ _ h => h) (Or.inl ⟨by rfl, ?_⟩) hHeld ?_ ?_; rotate_left
    · rintro w' ⟨s0, s1, s2, s3, s4, s5, s6, s7, s8⟩; go_simp; with_reducible rfl
    rotate_left
    · simp only [ap]; rfl
    refine take_ (i := 2) (N := some 9) (v := ?_) (a' := ?_) (bA 30 5) rfl rfl (take_ofW HT_.out HW_.out (by kernel_rfl)) (fun _ _ _ h => h) (Or.inl ⟨by rfl, ?_⟩) hHeld ?_ ?_; rotate_left
    · rintro w' ⟨s0, s1, s2, s3, s4, s5, s6, s7, s8⟩; go_simp; with_reducible rfl
    rotate_left
    · simp only [ap]; rfl
    refine one_ (i := 1) (N := some 8) (bA 30 7) rfl rfl (one_of HT_.out (by kernel_rfl)) (by decide) (fun K hK => ?_); refine goes_ Tryz.func4 (by kernel_rfl) rfl #[.agg #[.int .i64 a0_0, .int .i64 a0_1, .int .i64 a0_2, .int .i64 a0_3, .int .i64 a0_4, .bool a0_5, .bool a0_6]] (by rfl) rfl rfl (by (try simp only [mp]); first | done | rfl | (simp only [ld]; rfl)) ?_; (with_reducible refine (span_Valid.calls k a0_0 a0_1 a0_2 a0_3 a0_4 a0_5 a0_6 t980 _ A8.out).mono ?_); rintro e w18 ⟨rfl, hb⟩; refine ⟨_, rfl, ?_⟩; replace HBW := hs HBW hb; clear hb; refine hK.out _ _ (hc8 HBW.out (hs1 HBW.out) hH0) (fun hHeld => ?_); clear hK K; refine norm_ (a' := ?_) ?_ ?_; rotate_left
    · (show Act.put _ (some 8) _ = _); simp only [ap]; rfl
    refine one_ (i := 3) (N := some 10) (bA 30 15) rfl rfl (one_of HT_.out (by kernel_rfl)) (by decide) (fun K hK => ?_); refine goes_ Tryz.func5 (by kernel_rfl) rfl #[.agg #[.int .i64 a0_0, .int .i64 a0_1, .int .i64 a0_2, .int .i64 a0_3, .int .i64 a0_4, .bool a0_5, .bool a0_6]] (by rfl) rfl rfl (by (try simp only [mp]); first | done | rfl | (simp only [ld]; rfl)) ?_; (with_reducible refine (serinetteref03_Valid.calls k a0_0 a0_1 a0_2 a0_3 a0_4 a0_5 a0_6 t981 _ A9.out).mono ?_); rintro e w19 ⟨rfl, hb⟩; refine ⟨_, rfl, ?_⟩; replace HBW := hs HBW hb; clear hb; refine hK.out _ _ (hc8 HBW.out (hs1 HBW.out) hH0) (fun hHeld => ?_); clear hK K; refine norm_ (a' := ?_) ?_ ?_; rotate_left
    · (show Act.put _ (some 10) _ = _); simp only [ap]; rfl
    refine pure_ (i := 4) (N := some 11) (v := ?_) (a' := ?_) (bA 30 31) rfl rfl (any_of HT_.out (by kernel_rfl)) (fun _ _ _ h => h) (Or.inl ⟨by rfl, ?_⟩) ?_ ?_; rotate_left
    · intro w'; go_simp; with_reducible rfl
    rotate_left
    · simp only [ap]; rfl
    refine pure_ (i := 5) (N := some 12) (v := ?_) (a' := ?_) (bA 30 63) rfl rfl (any_of HT_.out (by kernel_rfl)) (fun _ _ _ h => h) (Or.inl ⟨by rfl, ?_⟩) ?_ ?_; rotate_left
    · intro w'; go_simp; with_reducible rfl
    rotate_left
    · simp only [ap]; rfl
    refine take_ (i := 6) (N := some 13) (v := ?_) (a' := ?_) (bA 30 127) rfl rfl (take_ofW HT_.out HW_.out (by kernel_rfl)) (fun _ _ _ h => h) (Or.inl ⟨by rfl, ?_⟩) hHeld ?_ ?_; rotate_left
    · rintro w' ⟨s0, s1, s2, s3, s4, s5, s6, s7, s8⟩; go_simp; with_reducible rfl
    rotate_left
    · simp only [ap]; rfl
    refine take_ (i := 7) (N := some 14) (v := ?_) (a' := ?_) (bA 30 255) rfl rfl (take_ofW HT_.out HW_.out (by kernel_rfl)) (fun _ _ _ h => h) (Or.inl ⟨by rfl, ?_⟩) hHeld ?_ ?_; rotate_left
    · rintro w' ⟨s0, s1, s2, s3, s4, s5, s6, s7, s8⟩; go_simp; with_reducible rfl
    rotate_left
    · simp only [ap]; rfl
    refine take_ (i := 9) (N := some 16) (v := ?_) (a' := ?_) (bA 30 767) rfl rfl (take_ofW HT_.out HW_.out (by kernel_rfl)) (fun _ _ _ h => h) (Or.inl ⟨by rfl, ?_⟩) hHeld ?_ ?_; rotate_left
    · rintro w' ⟨s0, s1, s2, s3, s4, s5, s6, s7, s8⟩; go_simp; with_reducible rfl
    rotate_left
    · simp only [ap]; rfl
    refine take_ (i := 10) (N := some 17) (v := ?_) (a' := ?_) (bA 30 1791) rfl rfl (take_ofW HT_.out HW_.out (by kernel_rfl)) (fun _ _ _ h => h) (Or.inl ⟨by rfl, ?_⟩) hHeld ?_ ?_; rotate_left
    · rintro w' ⟨s0, s1, s2, s3, s4, s5, s6, s7, s8⟩; go_simp; with_reducible rfl
    rotate_left
    · simp only [ap]; rfl
    refine one_ (i := 8) (N := some 15) (bA 30 2047) rfl rfl (one_of HT_.out (by kernel_rfl)) (by decide) (fun K hK => ?_); refine goes_ Tryz.func6 (by kernel_rfl) rfl #[.agg #[.int .i64 a0_0, .int .i64 a0_1, .int .i64 a0_2, .int .i64 a0_3, .int .i64 a0_4, .bool a0_5, .bool a0_6], .agg #[.int .i64 a2_0, .int .i64 a2_1]] (by rfl) rfl rfl (by (try simp only [mp]); first | done | rfl | (simp only [ld]; rfl)) ?_; (with_reducible refine (span_Has.calls k a0_0 a0_1 a0_2 a0_3 a0_4 a0_5 a0_6 a2_0 a2_1 t982 _ A14.out).mono ?_); rintro e w20 ⟨rfl, hb⟩; refine ⟨_, rfl, ?_⟩; replace HBW := hs HBW hb; clear hb; refine hK.out _ _ (hc8 HBW.out (hs1 HBW.out) hH0) (fun hHeld => ?_); clear hK K; refine norm_ (a' := ?_) ?_ ?_; rotate_left
    · (show Act.put _ (some 15) _ = _); simp only [ap]; rfl
    refine one_ (i := 11) (N := some 18) (bA 30 4095) rfl rfl (one_of HT_.out (by kernel_rfl)) (by decide) (fun K hK => ?_); refine goes_ Tryz.func7 (by kernel_rfl) rfl #[.agg #[.int .i64 a0_0, .int .i64 a0_1, .int .i64 a0_2, .int .i64 a0_3, .int .i64 a0_4, .bool a0_5, .bool a0_6], .agg #[.int .i64 a2_0, .int .i64 a2_1]] (by rfl) rfl rfl (by (try simp only [mp]); first | done | rfl | (simp only [ld]; rfl)) ?_; (with_reducible refine (serinetteref03_Has.calls k a0_0 a0_1 a0_2 a0_3 a0_4 a0_5 a0_6 a2_0 a2_1 t983 _ A15.out).mono ?_); rintro e w21 ⟨rfl, hb⟩; refine ⟨_, rfl, ?_⟩; replace HBW := hs HBW hb; clear hb; refine hK.out _ _ (hc8 HBW.out (hs1 HBW.out) hH0) (fun hHeld => ?_); clear hK K; refine norm_ (a' := ?_) ?_ ?_; rotate_left
    · (show Act.put _ (some 18) _ = _); simp only [ap]; rfl
    refine pure_ (i := 12) (N := some 19) (v := ?_) (a' := ?_) (bA 30 8191) rfl rfl (any_of HT_.out (by kernel_rfl)) (fun _ _ _ h => h) (Or.inl ⟨by rfl, ?_⟩) ?_ ?_; rotate_left
    · intro w'; go_simp; with_reducible rfl
    rotate_left
    · simp only [ap]; rfl
    refine pure_ (i := 13) (N := some 20) (v := ?_) (a' := ?_) (bA 30 16383) rfl rfl (any_of HT_.out (by kernel_rfl)) (fun _ _ _ h => h) (Or.inl ⟨by rfl, ?_⟩) ?_ ?_; rotate_left
    · intro w'; go_simp; with_reducible rfl
    rotate_left
    · simp only [ap]; rfl
    refine pure_ (i := 14) (N := some 21) (v := ?_) (a' := ?_) (bA 30 32767) rfl rfl (any_of HT_.out (by kernel_rfl)) (fun _ _ _ h => h) (Or.inl ⟨by rfl, ?_⟩) ?_ ?_; rotate_left
    · intro w'; go_simp; with_reducible rfl
    rotate_left
    · simp only [ap]; rfl
    refine pure_ (i := 15) (N := some 22) (v := undef) (a' := ?_) (bA 30 65535) rfl rfl (any_of HT_.out (by kernel_rfl)) (fun _ _ _ h => h) (Or.inr ⟨by rfl, rfl⟩) ?_ ?_; rotate_left
    · simp only [ap]; rfl
    refine pure_ (i := 16) (N := some 23) (v := undef) (a' := ?_) (bA 30 131071) rfl rfl (any_of HT_.out (by kernel_rfl)) (fun _ _ _ h => h) (Or.inr ⟨by rfl, rfl⟩) ?_ ?_; rotate_left
    · simp only [ap]; rfl
    refine pure_ (i := 17) (N := some 24) (v := undef) (a' := ?_) (bA 30 262143) rfl rfl (any_of HT_.out (by kernel_rfl)) (fun _ _ _ h => h) (Or.inr ⟨by rfl, rfl⟩) ?_ ?_; rotate_left
    · simp only [ap]; rfl
    refine pure_ (i := 18) (N := some 25) (v := undef) (a' := ?_) (bA 30 524287) rfl rfl (any_of HT_.out (by kernel_rfl)) (fun _ _ _ h => h) (Or.inr ⟨by rfl, rfl⟩) ?_ ?_; rotate_left
    · simp only [ap]; rfl
    refine pure_ (i := 19) (N := some 26) (v := undef) (a' := ?_) (bA 30 1048575) rfl rfl (any_of HT_.out (by kernel_rfl)) (fun _ _ _ h => h) (Or.inr ⟨by rfl, rfl⟩) ?_ ?_; rotate_left
    · simp only [ap]; rfl
    refine pure_ (i := 20) (N := some 27) (v := undef) (a' := ?_) (bA 30 2097151) rfl rfl (any_of HT_.out (by kernel_rfl)) (fun _ _ _ h => h) (Or.inr ⟨by rfl, rfl⟩) ?_ ?_; rotate_left
    · simp only [ap]; rfl
    refine pure_ (i := 21) (N := some 28) (v := undef) (a' := ?_) (bA 30 4194303) rfl rfl (any_of HT_.out (by kernel_rfl)) (fun _ _ _ h => h) (Or.inr ⟨by rfl, rfl⟩) ?_ ?_; rotate_left
    · simp only [ap]; rfl
    refine pure_ (i := 22) (N := some 29) (v := ?_) (a' := ?_) (bA 30 8388607) rfl rfl (any_of HT_.out (by kernel_rfl)) (fun _ _ _ h => h) (Or.inl ⟨by rfl, ?_⟩) ?_ ?_; rotate_left
    · intro w'; go_simp; with_reducible rfl
    rotate_left
    · simp only [ap]; rfl
    refine pure_ (i := 23) (N := some 30) (v := ?_) (a' := ?_) (bA 30 16777215) rfl rfl (any_of HT_.out (by kernel_rfl)) (fun _ _ _ h => h) (Or.inl ⟨by rfl, ?_⟩) ?_ ?_; rotate_left
    · intro w'; go_simp; with_reducible rfl
    rotate_left
    · simp only [ap]; rfl
    refine pure_ (i := 24) (N := some 31) (v := undef) (a' := ?_) (bA 30 33554431) rfl rfl (any_of HT_.out (by kernel_rfl)) (fun _ _ _ h => h) (Or.inr ⟨by rfl, rfl⟩) ?_ ?_; rotate_left
    · simp only [ap]; rfl
    refine pure_ (i := 25) (N := some 32) (v := undef) (a' := ?_) (bA 30 67108863) rfl rfl (any_of HT_.out (by kernel_rfl)) (fun _ _ _ h => h) (Or.inr ⟨by rfl, rfl⟩) ?_ ?_; rotate_left
    · simp only [ap]; rfl
    refine pure_ (i := 26) (N := some 33) (v := undef) (a' := ?_) (bA 30 134217727) rfl rfl (any_of HT_.out (by kernel_rfl)) (fun _ _ _ h => h) (Or.inr ⟨by rfl, rfl⟩) ?_ ?_; rotate_left
    · simp only [ap]; rfl
    refine pure_ (i := 27) (N := some 34) (v := undef) (a' := ?_) (bA 30 268435455) rfl rfl (any_of HT_.out (by kernel_rfl)) (fun _ _ _ h => h) (Or.inr ⟨by rfl, rfl⟩) ?_ ?_; rotate_left
    · simp only [ap]; rfl
    refine pure_ (i := 28) (N := some 35) (v := undef) (a' := ?_) (bA 30 536870911) rfl rfl (any_of HT_.out (by kernel_rfl)) (fun _ _ _ h => h) (Or.inr ⟨by rfl, rfl⟩) ?_ ?_; rotate_left
    · simp only [ap]; rfl
    refine pure_ (i := 29) (N := some 36) (v := ?_) (a' := ?_) (bA 30 1073741823) rfl rfl (any_of HT_.out (by kernel_rfl)) (fun _ _ _ h => h) (Or.inl ⟨by rfl, ?_⟩) ?_ ?_; rotate_left
    · intro w'; go_simp; with_reducible rfl
    rotate_left
    · simp only [ap]; rfl
    replace BK977 := kb BK977 HBW.out; replace BK978 := kb BK978 HBW.out; replace BK979 := kb BK979 HBW.out; replace HB := hs HB HBW.out; refine done_ (done_of HT_.out (by kernel_rfl)) ?_; clear HBW hH0; (try go_wp2); go_meet
    case rel => exact ⟨_, (true), (by first | rfl | (simp; done) | (simp [*]; done)), H', ⟨by first | omega | exact Nat.le_refl _⟩, ⟨bk BK977.out⟩, ⟨bk BK978.out⟩, ⟨bk BK979.out⟩, ab2_⟩
   ·
    rw [if_neg c16] at H; (have c16b0 : (t982 != t983) = false := by simpa using c16); (try (have c16b1 : decide (t982 = t983) = true := by simpa using c16)); (try (have c16b2 : (t982 == t983) = true := by simpa using c16)); clear c16; replace H := Option.bind_eq_some_iff.mp H; obtain ⟨t984, A220, H⟩ := H; (try dsimp only at H); have A22 := Aside0.mk A220; clear A220; replace H := Option.bind_eq_some_iff.mp H; obtain ⟨t985, A230, H⟩ := H; (try dsimp only at H); have A23 := Aside0.mk A230; clear A230; by_cases c24 : (t984 != t985) = true
    ·
     rw [if_pos c24] at H; have c24b0 : (t984 != t985) = true := c24; (try (have c24b1 : decide (t984 = t985) = false := by simpa using c24)); (try (have c24b2 : (t984 == t985) = false := by simpa using c24)); (try (have c24b3 : ¬ (t984 = t985) := by simpa using c24)); clear c24; have H' := Aside0.mk H; clear H; (try go_wp2); replace BK977 := kd BK977; replace BK978 := kd BK978; replace BK979 := kd BK979; replace HB := Aside0.mk (below_drew1 HB.out); refine start_ (n := 30) (S := fun w' => w'.cell? ⟨gb977, 0, none⟩ = some (.int .i64 a0_0) ∧ w'.cell? ⟨gb977, 1, none⟩ = some (.int .i64 a0_1) ∧ w'.cell? ⟨gb977, 2, none⟩ = some (.int .i64 a0_2) ∧ w'.cell? ⟨gb977, 3, none⟩ = some (.int .i64 a0_3) ∧ w'.cell? ⟨gb977, 4, none⟩ = some (.int .i64 a0_4) ∧ w'.cell? ⟨gb977, 5, none⟩ = some (.bool a0_5) ∧ w'.cell? ⟨gb977, 6, none⟩ = some (.bool a0_6) ∧ w'.cell? ⟨gb979, 0, none⟩ = some (.int .i64 a2_0) ∧ w'.cell? ⟨gb979, 1, none⟩ = some (.int .i64 a2_1) ∧ w'.cell? ⟨gb978, 0, none⟩ = some (.int .i64 a1_0) ∧ w'.cell? ⟨gb978, 1, none⟩ = some (.int .i64 a1_1) ∧ w'.cell? ⟨gb978, 2, none⟩ = some (.int .i64 a1_2) ∧ w'.cell? ⟨gb978, 3, none⟩ = some (.int .i64 a1_3) ∧ w'.cell? ⟨gb978, 4, none⟩ = some (.int .i64 a1_4) ∧ w'.cell? ⟨gb978, 5, none⟩ = some (.bool a1_5) ∧ w'.cell? ⟨gb978, 6, none⟩ = some (.bool a1_6)) (ds := []) (bA 30 0) (by kernel_rfl) rfl rfl ⟨(blk_cell BK977.out 0).trans rfl, (blk_cell BK977.out 1).trans rfl, (blk_cell BK977.out 2).trans rfl, (blk_cell BK977.out 3).trans rfl, (blk_cell BK977.out 4).trans rfl, (blk_cell BK977.out 5).trans rfl, (blk_cell BK977.out 6).trans rfl, (blk_cell BK979.out 0).trans rfl, (blk_cell BK979.out 1).trans rfl, (blk_cell BK978.out 0).trans rfl, (blk_cell BK978.out 1).trans rfl, (blk_cell BK978.out 2).trans rfl, (blk_cell BK978.out 3).trans rfl, (blk_cell BK978.out 4).trans rfl, (blk_cell BK978.out 5).trans rfl, (blk_cell BK978.out 6).trans rfl⟩ (fun hHeld => ?_); refine with_tabW serinettelaw03_SpanSays.tab1 serinettelaw03_SpanSays.bits1 (fun HT_ HW_ => ?_); generalize w7.drew = w25 at BK977 BK978 BK979 HB hHeld ⊢; have hH0 := hHeld; have HBW := hbw w25; refine take_ (i := 0) (N := some 7) (v := ?_) (a' := ?_) (bA 30 1) rfl rfl (take_ofW HT_.out HW_.out (by kernel_rfl)) (fun _ _ _ h => h) (Or.inl ⟨by rfl, ?_⟩) hHeld ?_ ?_; rotate_left
     · rintro w' ⟨s0, s1, s2, s3, s4, s5, s6, s7, s8, s9, s10, s11, s12, s13, s14, s15⟩; go_simp; with_reducible rfl
     rotate_left
     · simp only [ap]; rfl
     refine take_ (i := 2) (N := some 9) (v := ?_) (a' := ?_) (bA 30 5) rfl rfl (take_ofW HT_.out HW_.out (by kernel_rfl)) (fun _ _ _ h => h) (Or.inl ⟨by rfl, ?_⟩) hHeld ?_ ?_; rotate_left
     · rintro w' ⟨s0, s1, s2, s3, s4, s5, s6, s7, s8, s9, s10, s11, s12, s13, s14, s15⟩; go_simp; with_reducible rfl
     rotate_left
     · simp only [ap]; rfl
     refine one_ (i := 1) (N := some 8) (bA 30 7) rfl rfl (one_of HT_.out (by kernel_rfl)) (by decide) (fun K hK => ?_); refine goes_ Tryz.func4 (by kernel_rfl) rfl #[.agg #[.int .i64 a0_0, .int .i64 a0_1, .int .i64 a0_2, .int .i64 a0_3, .int .i64 a0_4, .bool a0_5, .bool a0_6]] (by rfl) rfl rfl (by (try simp only [mp]); first | done | rfl | (simp only [ld]; rfl)) ?_; (with_reducible refine (span_Valid.calls k a0_0 a0_1 a0_2 a0_3 a0_4 a0_5 a0_6 t980 _ A8.out).mono ?_); rintro e w26 ⟨rfl, hb⟩; refine ⟨_, rfl, ?_⟩; replace HBW := hs HBW hb; clear hb; refine hK.out _ _ (hc8 HBW.out (hs8 HBW.out) hH0) (fun hHeld => ?_); clear hK K; refine norm_ (a' := ?_) ?_ ?_; rotate_left
     · (show Act.put _ (some 8) _ = _); simp only [ap]; rfl
     refine one_ (i := 3) (N := some 10) (bA 30 15) rfl rfl (one_of HT_.out (by kernel_rfl)) (by decide) (fun K hK => ?_); refine goes_ Tryz.func5 (by kernel_rfl) rfl #[.agg #[.int .i64 a0_0, .int .i64 a0_1, .int .i64 a0_2, .int .i64 a0_3, .int .i64 a0_4, .bool a0_5, .bool a0_6]] (by rfl) rfl rfl (by (try simp only [mp]); first | done | rfl | (simp only [ld]; rfl)) ?_; (with_reducible refine (serinetteref03_Valid.calls k a0_0 a0_1 a0_2 a0_3 a0_4 a0_5 a0_6 t981 _ A9.out).mono ?_); rintro e w27 ⟨rfl, hb⟩; refine ⟨_, rfl, ?_⟩; replace HBW := hs HBW hb; clear hb; refine hK.out _ _ (hc8 HBW.out (hs8 HBW.out) hH0) (fun hHeld => ?_); clear hK K; refine norm_ (a' := ?_) ?_ ?_; rotate_left
     · (show Act.put _ (some 10) _ = _); simp only [ap]; rfl
     refine pure_ (i := 4) (N := some 11) (v := ?_) (a' := ?_) (bA 30 31) rfl rfl (any_of HT_.out (by kernel_rfl)) (fun _ _ _ h => h) (Or.inl ⟨by rfl, ?_⟩) ?_ ?_; rotate_left
     · intro w'; go_simp; with_reducible rfl
     rotate_left
     · simp only [ap]; rfl
     refine pure_ (i := 5) (N := some 12) (v := ?_) (a' := ?_) (bA 30 63) rfl rfl (any_of HT_.out (by kernel_rfl)) (fun _ _ _ h => h) (Or.inl ⟨by rfl, ?_⟩) ?_ ?_; rotate_left
     · intro w'; go_simp; with_reducible rfl
     rotate_left
     · simp only [ap]; rfl
     refine take_ (i := 6) (N := some 13) (v := ?_) (a' := ?_) (bA 30 127) rfl rfl (take_ofW HT_.out HW_.out (by kernel_rfl)) (fun _ _ _ h => h) (Or.inl ⟨by rfl, ?_⟩) hHeld ?_ ?_; rotate_left
     · rintro w' ⟨s0, s1, s2, s3, s4, s5, s6, s7, s8, s9, s10, s11, s12, s13, s14, s15⟩; go_simp; with_reducible rfl
     rotate_left
     · simp only [ap]; rfl
     refine take_ (i := 7) (N := some 14) (v := ?_) (a' := ?_) (bA 30 255) rfl rfl (take_ofW HT_.out HW_.out (by kernel_rfl)) (fun _ _ _ h => h) (Or.inl ⟨by rfl, ?_⟩) hHeld ?_ ?_; rotate_left
     · rintro w' ⟨s0, s1, s2, s3, s4, s5, s6, s7, s8, s9, s10, s11, s12, s13, s14, s15⟩; go_simp; with_reducible rfl
     rotate_left
     · simp only [ap]; rfl
     refine take_ (i := 9) (N := some 16) (v := ?_) (a' := ?_) (bA 30 767) rfl rfl (take_ofW HT_.out HW_.out (by kernel_rfl)) (fun _ _ _ h => h) (Or.inl ⟨by rfl, ?_⟩) hHeld ?_ ?_; rotate_left
     · rintro w' ⟨s0, s1, s2, s3, s4, s5, s6, s7, s8, s9, s10, s11, s12, s13, s14, s15⟩; go_simp; with_reducible rfl
     rotate_left
     · simp only [ap]; rfl
     refine take_ (i := 10) (N := some 17) (v := ?_) (a' := ?_) (bA 30 1791) rfl rfl (take_ofW HT_.out HW_.out (by kernel_rfl)) (fun _ _ _ h => h) (Or.inl ⟨by rfl, ?_⟩) hHeld ?_ ?_; rotate_left
     · rintro w' ⟨s0, s1, s2, s3, s4, s5, s6, s7, s8, s9, s10, s11, s12, s13, s14, s15⟩; go_simp; with_reducible rfl
     rotate_left
     · simp only [ap]; rfl
     refine one_ (i := 8) (N := some 15) (bA 30 2047) rfl rfl (one_of HT_.out (by kernel_rfl)) (by decide) (fun K hK => ?_); refine goes_ Tryz.func6 (by kernel_rfl) rfl #[.agg #[.int .i64 a0_0, .int .i64 a0_1, .int .i64 a0_2, .int .i64 a0_3, .int .i64 a0_4, .bool a0_5, .bool a0_6], .agg #[.int .i64 a2_0, .int .i64 a2_1]] (by rfl) rfl rfl (by (try simp only [mp]); first | done | rfl | (simp only [ld]; rfl)) ?_; (with_reducible refine (span_Has.calls k a0_0 a0_1 a0_2 a0_3 a0_4 a0_5 a0_6 a2_0 a2_1 t982 _ A14.out).mono ?_); rintro e w28 ⟨rfl, hb⟩; refine ⟨_, rfl, ?_⟩; replace HBW := hs HBW hb; clear hb; refine hK.out _ _ (hc8 HBW.out (hs8 HBW.out) hH0) (fun hHeld => ?_); clear hK K; refine norm_ (a' := ?_) ?_ ?_; rotate_left
     · (show Act.put _ (some 15) _ = _); simp only [ap]; rfl
     refine one_ (i := 11) (N := some 18) (bA 30 4095) rfl rfl (one_of HT_.out (by kernel_rfl)) (by decide) (fun K hK => ?_); refine goes_ Tryz.func7 (by kernel_rfl) rfl #[.agg #[.int .i64 a0_0, .int .i64 a0_1, .int .i64 a0_2, .int .i64 a0_3, .int .i64 a0_4, .bool a0_5, .bool a0_6], .agg #[.int .i64 a2_0, .int .i64 a2_1]] (by rfl) rfl rfl (by (try simp only [mp]); first | done | rfl | (simp only [ld]; rfl)) ?_; (with_reducible refine (serinetteref03_Has.calls k a0_0 a0_1 a0_2 a0_3 a0_4 a0_5 a0_6 a2_0 a2_1 t983 _ A15.out).mono ?_); rintro e w29 ⟨rfl, hb⟩; refine ⟨_, rfl, ?_⟩; replace HBW := hs HBW hb; clear hb; refine hK.out _ _ (hc8 HBW.out (hs8 HBW.out) hH0) (fun hHeld => ?_); clear hK K; refine norm_ (a' := ?_) ?_ ?_; rotate_left
     · (show Act.put _ (some 18) _ = _); simp only [ap]; rfl
     refine pure_ (i := 12) (N := some 19) (v := ?_) (a' := ?_) (bA 30 8191) rfl rfl (any_of HT_.out (by kernel_rfl)) (fun _ _ _ h => h) (Or.inl ⟨by rfl, ?_⟩) ?_ ?_; rotate_left
     · intro w'; go_simp; with_reducible rfl
     rotate_left
     · simp only [ap]; rfl
     refine pure_ (i := 13) (N := some 20) (v := ?_) (a' := ?_) (bA 30 16383) rfl rfl (any_of HT_.out (by kernel_rfl)) (fun _ _ _ h => h) (Or.inl ⟨by rfl, ?_⟩) ?_ ?_; rotate_left
     · intro w'; go_simp; with_reducible rfl
     rotate_left
     · simp only [ap]; rfl
     refine pure_ (i := 14) (N := some 21) (v := ?_) (a' := ?_) (bA 30 32767) rfl rfl (any_of HT_.out (by kernel_rfl)) (fun _ _ _ h => h) (Or.inl ⟨by rfl, ?_⟩) ?_ ?_; rotate_left
     · intro w'; go_simp; with_reducible rfl
     rotate_left
     · simp only [ap]; rfl
     refine take_ (i := 15) (N := some 22) (v := ?_) (a' := ?_) (bA 30 65535) rfl rfl (take_ofW HT_.out HW_.out (by kernel_rfl)) (fun _ _ _ h => h) (Or.inl ⟨by rfl, ?_⟩) hHeld ?_ ?_; rotate_left
     · rintro w' ⟨s0, s1, s2, s3, s4, s5, s6, s7, s8, s9, s10, s11, s12, s13, s14, s15⟩; go_simp; with_reducible rfl
     rotate_left
     · simp only [ap]; rfl
     refine take_ (i := 16) (N := some 23) (v := ?_) (a' := ?_) (bA 30 131071) rfl rfl (take_ofW HT_.out HW_.out (by kernel_rfl)) (fun _ _ _ h => h) (Or.inl ⟨by rfl, ?_⟩) hHeld ?_ ?_; rotate_left
     · rintro w' ⟨s0, s1, s2, s3, s4, s5, s6, s7, s8, s9, s10, s11, s12, s13, s14, s15⟩; go_simp; with_reducible rfl
     rotate_left
     · simp only [ap]; rfl
     refine take_ (i := 18) (N := some 25) (v := ?_) (a' := ?_) (bA 30 393215) rfl rfl (take_ofW HT_.out HW_.out (by kernel_rfl)) (fun _ _ _ h => h) (Or.inl ⟨by rfl, ?_⟩) hHeld ?_ ?_; rotate_left
     · rintro w' ⟨s0, s1, s2, s3, s4, s5, s6, s7, s8, s9, s10, s11, s12, s13, s14, s15⟩; go_simp; with_reducible rfl
     rotate_left
     · simp only [ap]; rfl
     refine take_ (i := 19) (N := some 26) (v := ?_) (a' := ?_) (bA 30 917503) rfl rfl (take_ofW HT_.out HW_.out (by kernel_rfl)) (fun _ _ _ h => h) (Or.inl ⟨by rfl, ?_⟩) hHeld ?_ ?_; rotate_left
     · rintro w' ⟨s0, s1, s2, s3, s4, s5, s6, s7, s8, s9, s10, s11, s12, s13, s14, s15⟩; go_simp; with_reducible rfl
     rotate_left
     · simp only [ap]; rfl
     refine one_ (i := 17) (N := some 24) (bA 30 1048575) rfl rfl (one_of HT_.out (by kernel_rfl)) (by decide) (fun K hK => ?_); refine goes_ Tryz.func8 (by kernel_rfl) rfl #[.agg #[.int .i64 a0_0, .int .i64 a0_1, .int .i64 a0_2, .int .i64 a0_3, .int .i64 a0_4, .bool a0_5, .bool a0_6], .agg #[.int .i64 a1_0, .int .i64 a1_1, .int .i64 a1_2, .int .i64 a1_3, .int .i64 a1_4, .bool a1_5, .bool a1_6]] (by rfl) rfl rfl (by (try simp only [mp]); first | done | rfl | (simp only [ld]; rfl)) ?_; (with_reducible refine (span_Within.calls k a0_0 a0_1 a0_2 a0_3 a0_4 a0_5 a0_6 a1_0 a1_1 a1_2 a1_3 a1_4 a1_5 a1_6 t984 _ A22.out).mono ?_); rintro e w30 ⟨rfl, hb⟩; refine ⟨_, rfl, ?_⟩; replace HBW := hs HBW hb; clear hb; refine hK.out _ _ (hc8 HBW.out (hs8 HBW.out) hH0) (fun hHeld => ?_); clear hK K; refine norm_ (a' := ?_) ?_ ?_; rotate_left
     · (show Act.put _ (some 24) _ = _); simp only [ap]; rfl
     refine one_ (i := 20) (N := some 27) (bA 30 2097151) rfl rfl (one_of HT_.out (by kernel_rfl)) (by decide) (fun K hK => ?_); refine goes_ Tryz.func9 (by kernel_rfl) rfl #[.agg #[.int .i64 a0_0, .int .i64 a0_1, .int .i64 a0_2, .int .i64 a0_3, .int .i64 a0_4, .bool a0_5, .bool a0_6], .agg #[.int .i64 a1_0, .int .i64 a1_1, .int .i64 a1_2, .int .i64 a1_3, .int .i64 a1_4, .bool a1_5, .bool a1_6]] (by rfl) rfl rfl (by (try simp only [mp]); first | done | rfl | (simp only [ld]; rfl)) ?_; (with_reducible refine (serinetteref03_Within.calls k a0_0 a0_1 a0_2 a0_3 a0_4 a0_5 a0_6 a1_0 a1_1 a1_2 a1_3 a1_4 a1_5 a1_6 t985 _ A23.out).mono ?_); rintro e w31 ⟨rfl, hb⟩; refine ⟨_, rfl, ?_⟩; replace HBW := hs HBW hb; clear hb; refine hK.out _ _ (hc8 HBW.out (hs8 HBW.out) hH0) (fun hHeld => ?_); clear hK K; refine norm_ (a' := ?_) ?_ ?_; rotate_left
     · (show Act.put _ (some 27) _ = _); simp only [ap]; rfl
     refine pure_ (i := 21) (N := some 28) (v := ?_) (a' := ?_) (bA 30 4194303) rfl rfl (any_of HT_.out (by kernel_rfl)) (fun _ _ _ h => h) (Or.inl ⟨by rfl, ?_⟩) ?_ ?_; rotate_left
     · intro w'; go_simp; with_reducible rfl
     rotate_left
     · simp only [ap]; rfl
     refine pure_ (i := 22) (N := some 29) (v := ?_) (a' := ?_) (bA 30 8388607) rfl rfl (any_of HT_.out (by kernel_rfl)) (fun _ _ _ h => h) (Or.inl ⟨by rfl, ?_⟩) ?_ ?_; rotate_left
     · intro w'; go_simp; with_reducible rfl
     rotate_left
     · simp only [ap]; rfl
     refine pure_ (i := 23) (N := some 30) (v := ?_) (a' := ?_) (bA 30 16777215) rfl rfl (any_of HT_.out (by kernel_rfl)) (fun _ _ _ h => h) (Or.inl ⟨by rfl, ?_⟩) ?_ ?_; rotate_left
     · intro w'; go_simp; with_reducible rfl
     rotate_left
     · simp only [ap]; rfl
     refine pure_ (i := 24) (N := some 31) (v := undef) (a' := ?_) (bA 30 33554431) rfl rfl (any_of HT_.out (by kernel_rfl)) (fun _ _ _ h => h) (Or.inr ⟨by rfl, rfl⟩) ?_ ?_; rotate_left
     · simp only [ap]; rfl
     refine pure_ (i := 25) (N := some 32) (v := undef) (a' := ?_) (bA 30 67108863) rfl rfl (any_of HT_.out (by kernel_rfl)) (fun _ _ _ h => h) (Or.inr ⟨by rfl, rfl⟩) ?_ ?_; rotate_left
     · simp only [ap]; rfl
     refine pure_ (i := 26) (N := some 33) (v := undef) (a' := ?_) (bA 30 134217727) rfl rfl (any_of HT_.out (by kernel_rfl)) (fun _ _ _ h => h) (Or.inr ⟨by rfl, rfl⟩) ?_ ?_; rotate_left
     · simp only [ap]; rfl
     refine pure_ (i := 27) (N := some 34) (v := undef) (a' := ?_) (bA 30 268435455) rfl rfl (any_of HT_.out (by kernel_rfl)) (fun _ _ _ h => h) (Or.inr ⟨by rfl, rfl⟩) ?_ ?_; rotate_left
     · simp only [ap]; rfl
     refine pure_ (i := 28) (N := some 35) (v := undef) (a' := ?_) (bA 30 536870911) rfl rfl (any_of HT_.out (by kernel_rfl)) (fun _ _ _ h => h) (Or.inr ⟨by rfl, rfl⟩) ?_ ?_; rotate_left
     · simp only [ap]; rfl
     refine pure_ (i := 29) (N := some 36) (v := ?_) (a' := ?_) (bA 30 1073741823) rfl rfl (any_of HT_.out (by kernel_rfl)) (fun _ _ _ h => h) (Or.inl ⟨by rfl, ?_⟩) ?_ ?_; rotate_left
     · intro w'; go_simp; with_reducible rfl
     rotate_left
     · simp only [ap]; rfl
     replace BK977 := kb BK977 HBW.out; replace BK978 := kb BK978 HBW.out; replace BK979 := kb BK979 HBW.out; replace HB := hs HB HBW.out; refine done_ (done_of HT_.out (by kernel_rfl)) ?_; clear HBW hH0; (try go_wp2); go_meet
     case rel => exact ⟨_, (true), (by first | rfl | (simp; done) | (simp [*]; done)), H', ⟨by first | omega | exact Nat.le_refl _⟩, ⟨bk BK977.out⟩, ⟨bk BK978.out⟩, ⟨bk BK979.out⟩, ab2_⟩
    ·
     rw [if_neg c24] at H; (have c24b0 : (t984 != t985) = false := by simpa using c24); (try (have c24b1 : decide (t984 = t985) = true := by simpa using c24)); (try (have c24b2 : (t984 == t985) = true := by simpa using c24)); clear c24; replace H := Option.bind_eq_some_iff.mp H; obtain ⟨t986, A320, H⟩ := H; (try dsimp only at H); have A32 := Aside0.mk A320; clear A320; replace H := Option.bind_eq_some_iff.mp H; obtain ⟨t987, A330, H⟩ := H; (try dsimp only at H); have A33 := Aside0.mk A330; clear A330; have H' := Aside0.mk H; clear H; (try go_wp2); replace BK977 := kd BK977; replace BK978 := kd BK978; replace BK979 := kd BK979; replace HB := Aside0.mk (below_drew1 HB.out); refine start_ (n := 30) (S := fun w' => w'.cell? ⟨gb977, 0, none⟩ = some (.int .i64 a0_0) ∧ w'.cell? ⟨gb977, 1, none⟩ = some (.int .i64 a0_1) ∧ w'.cell? ⟨gb977, 2, none⟩ = some (.int .i64 a0_2) ∧ w'.cell? ⟨gb977, 3, none⟩ = some (.int .i64 a0_3) ∧ w'.cell? ⟨gb977, 4, none⟩ = some (.int .i64 a0_4) ∧ w'.cell? ⟨gb977, 5, none⟩ = some (.bool a0_5) ∧ w'.cell? ⟨gb977, 6, none⟩ = some (.bool a0_6) ∧ w'.cell? ⟨gb979, 0, none⟩ = some (.int .i64 a2_0) ∧ w'.cell? ⟨gb979, 1, none⟩ = some (.int .i64 a2_1) ∧ w'.cell? ⟨gb978, 0, none⟩ = some (.int .i64 a1_0) ∧ w'.cell? ⟨gb978, 1, none⟩ = some (.int .i64 a1_1) ∧ w'.cell? ⟨gb978, 2, none⟩ = some (.int .i64 a1_2) ∧ w'.cell? ⟨gb978, 3, none⟩ = some (.int .i64 a1_3) ∧ w'.cell? ⟨gb978, 4, none⟩ = some (.int .i64 a1_4) ∧ w'.cell? ⟨gb978, 5, none⟩ = some (.bool a1_5) ∧ w'.cell? ⟨gb978, 6, none⟩ = some (.bool a1_6)) (ds := []) (bA 30 0) (by kernel_rfl) rfl rfl ⟨(blk_cell BK977.out 0).trans rfl, (blk_cell BK977.out 1).trans rfl, (blk_cell BK977.out 2).trans rfl, (blk_cell BK977.out 3).trans rfl, (blk_cell BK977.out 4).trans rfl, (blk_cell BK977.out 5).trans rfl, (blk_cell BK977.out 6).trans rfl, (blk_cell BK979.out 0).trans rfl, (blk_cell BK979.out 1).trans rfl, (blk_cell BK978.out 0).trans rfl, (blk_cell BK978.out 1).trans rfl, (blk_cell BK978.out 2).trans rfl, (blk_cell BK978.out 3).trans rfl, (blk_cell BK978.out 4).trans rfl, (blk_cell BK978.out 5).trans rfl, (blk_cell BK978.out 6).trans rfl⟩ (fun hHeld => ?_); refine with_tabW serinettelaw03_SpanSays.tab1 serinettelaw03_SpanSays.bits1 (fun HT_ HW_ => ?_); generalize w7.drew = w34 at BK977 BK978 BK979 HB hHeld ⊢; have hH0 := hHeld; have HBW := hbw w34; refine take_ (i := 0) (N := some 7) (v := ?_) (a' := ?_) (bA 30 1) rfl rfl (take_ofW HT_.out HW_.out (by kernel_rfl)) (fun _ _ _ h => h) (Or.inl ⟨by rfl, ?_⟩) hHeld ?_ ?_; rotate_left
     · rintro w' ⟨s0, s1, s2, s3, s4, s5, s6, s7, s8, s9, s10, s11, s12, s13, s14, s15⟩; go_simp; with_reducible rfl
     rotate_left
     · simp only [ap]; rfl
     refine take_ (i := 2) (N := some 9) (v := ?_) (a' := ?_) (bA 30 5) rfl rfl (take_ofW HT_.out HW_.out (by kernel_rfl)) (fun _ _ _ h => h) (Or.inl ⟨by rfl, ?_⟩) hHeld ?_ ?_; rotate_left
     · rintro w' ⟨s0, s1, s2, s3, s4, s5, s6, s7, s8, s9, s10, s11, s12, s13, s14, s15⟩; go_simp; with_reducible rfl
     rotate_left
     · simp only [ap]; rfl
     refine one_ (i := 1) (N := some 8) (bA 30 7) rfl rfl (one_of HT_.out (by kernel_rfl)) (by decide) (fun K hK => ?_); refine goes_ Tryz.func4 (by kernel_rfl) rfl #[.agg #[.int .i64 a0_0, .int .i64 a0_1, .int .i64 a0_2, .int .i64 a0_3, .int .i64 a0_4, .bool a0_5, .bool a0_6]] (by rfl) rfl rfl (by (try simp only [mp]); first | done | rfl | (simp only [ld]; rfl)) ?_; (with_reducible refine (span_Valid.calls k a0_0 a0_1 a0_2 a0_3 a0_4 a0_5 a0_6 t980 _ A8.out).mono ?_); rintro e w35 ⟨rfl, hb⟩; refine ⟨_, rfl, ?_⟩; replace HBW := hs HBW hb; clear hb; refine hK.out _ _ (hc8 HBW.out (hs8 HBW.out) hH0) (fun hHeld => ?_); clear hK K; refine norm_ (a' := ?_) ?_ ?_; rotate_left
     · (show Act.put _ (some 8) _ = _); simp only [ap]; rfl
     refine one_ (i := 3) (N := some 10) (bA 30 15) rfl rfl (one_of HT_.out (by kernel_rfl)) (by decide) (fun K hK => ?_); refine goes_ Tryz.func5 (by kernel_rfl) rfl #[.agg #[.int .i64 a0_0, .int .i64 a0_1, .int .i64 a0_2, .int .i64 a0_3, .int .i64 a0_4, .bool a0_5, .bool a0_6]] (by rfl) rfl rfl (by (try simp only [mp]); first | done | rfl | (simp only [ld]; rfl)) ?_; (with_reducible refine (serinetteref03_Valid.calls k a0_0 a0_1 a0_2 a0_3 a0_4 a0_5 a0_6 t981 _ A9.out).mono ?_); rintro e w36 ⟨rfl, hb⟩; refine ⟨_, rfl, ?_⟩; replace HBW := hs HBW hb; clear hb; refine hK.out _ _ (hc8 HBW.out (hs8 HBW.out) hH0) (fun hHeld => ?_); clear hK K; refine norm_ (a' := ?_) ?_ ?_; rotate_left
     · (show Act.put _ (some 10) _ = _); simp only [ap]; rfl
     refine pure_ (i := 4) (N := some 11) (v := ?_) (a' := ?_) (bA 30 31) rfl rfl (any_of HT_.out (by kernel_rfl)) (fun _ _ _ h => h) (Or.inl ⟨by rfl, ?_⟩) ?_ ?_; rotate_left
     · intro w'; go_simp; with_reducible rfl
     rotate_left
     · simp only [ap]; rfl
     refine pure_ (i := 5) (N := some 12) (v := ?_) (a' := ?_) (bA 30 63) rfl rfl (any_of HT_.out (by kernel_rfl)) (fun _ _ _ h => h) (Or.inl ⟨by rfl, ?_⟩) ?_ ?_; rotate_left
     · intro w'; go_simp; with_reducible rfl
     rotate_left
     · simp only [ap]; rfl
     refine take_ (i := 6) (N := some 13) (v := ?_) (a' := ?_) (bA 30 127) rfl rfl (take_ofW HT_.out HW_.out (by kernel_rfl)) (fun _ _ _ h => h) (Or.inl ⟨by rfl, ?_⟩) hHeld ?_ ?_; rotate_left
     · rintro w' ⟨s0, s1, s2, s3, s4, s5, s6, s7, s8, s9, s10, s11, s12, s13, s14, s15⟩; go_simp; with_reducible rfl
     rotate_left
     · simp only [ap]; rfl
     refine take_ (i := 7) (N := some 14) (v := ?_) (a' := ?_) (bA 30 255) rfl rfl (take_ofW HT_.out HW_.out (by kernel_rfl)) (fun _ _ _ h => h) (Or.inl ⟨by rfl, ?_⟩) hHeld ?_ ?_; rotate_left
     · rintro w' ⟨s0, s1, s2, s3, s4, s5, s6, s7, s8, s9, s10, s11, s12, s13, s14, s15⟩; go_simp; with_reducible rfl
     rotate_left
     · simp only [ap]; rfl
     refine take_ (i := 9) (N := some 16) (v := ?_) (a' := ?_) (bA 30 767) rfl rfl (take_ofW HT_.out HW_.out (by kernel_rfl)) (fun _ _ _ h => h) (Or.inl ⟨by rfl, ?_⟩) hHeld ?_ ?_; rotate_left
     · rintro w' ⟨s0, s1, s2, s3, s4, s5, s6, s7, s8, s9, s10, s11, s12, s13, s14, s15⟩; go_simp; with_reducible rfl
     rotate_left
     · simp only [ap]; rfl
     refine take_ (i := 10) (N := some 17) (v := ?_) (a' := ?_) (bA 30 1791) rfl rfl (take_ofW HT_.out HW_.out (by kernel_rfl)) (fun _ _ _ h => h) (Or.inl ⟨by rfl, ?_⟩) hHeld ?_ ?_; rotate_left
     · rintro w' ⟨s0, s1, s2, s3, s4, s5, s6, s7, s8, s9, s10, s11, s12, s13, s14, s15⟩; go_simp; with_reducible rfl
     rotate_left
     · simp only [ap]; rfl
     refine one_ (i := 8) (N := some 15) (bA 30 2047) rfl rfl (one_of HT_.out (by kernel_rfl)) (by decide) (fun K hK => ?_); refine goes_ Tryz.func6 (by kernel_rfl) rfl #[.agg #[.int .i64 a0_0, .int .i64 a0_1, .int .i64 a0_2, .int .i64 a0_3, .int .i64 a0_4, .bool a0_5, .bool a0_6], .agg #[.int .i64 a2_0, .int .i64 a2_1]] (by rfl) rfl rfl (by (try simp only [mp]); first | done | rfl | (simp only [ld]; rfl)) ?_; (with_reducible refine (span_Has.calls k a0_0 a0_1 a0_2 a0_3 a0_4 a0_5 a0_6 a2_0 a2_1 t982 _ A14.out).mono ?_); rintro e w37 ⟨rfl, hb⟩; refine ⟨_, rfl, ?_⟩; replace HBW := hs HBW hb; clear hb; refine hK.out _ _ (hc8 HBW.out (hs8 HBW.out) hH0) (fun hHeld => ?_); clear hK K; refine norm_ (a' := ?_) ?_ ?_; rotate_left
     · (show Act.put _ (some 15) _ = _); simp only [ap]; rfl
     refine one_ (i := 11) (N := some 18) (bA 30 4095) rfl rfl (one_of HT_.out (by kernel_rfl)) (by decide) (fun K hK => ?_); refine goes_ Tryz.func7 (by kernel_rfl) rfl #[.agg #[.int .i64 a0_0, .int .i64 a0_1, .int .i64 a0_2, .int .i64 a0_3, .int .i64 a0_4, .bool a0_5, .bool a0_6], .agg #[.int .i64 a2_0, .int .i64 a2_1]] (by rfl) rfl rfl (by (try simp only [mp]); first | done | rfl | (simp only [ld]; rfl)) ?_; (with_reducible refine (serinetteref03_Has.calls k a0_0 a0_1 a0_2 a0_3 a0_4 a0_5 a0_6 a2_0 a2_1 t983 _ A15.out).mono ?_); rintro e w38 ⟨rfl, hb⟩; refine ⟨_, rfl, ?_⟩; replace HBW := hs HBW hb; clear hb; refine hK.out _ _ (hc8 HBW.out (hs8 HBW.out) hH0) (fun hHeld => ?_); clear hK K; refine norm_ (a' := ?_) ?_ ?_; rotate_left
     · (show Act.put _ (some 18) _ = _); simp only [ap]; rfl
     refine pure_ (i := 12) (N := some 19) (v := ?_) (a' := ?_) (bA 30 8191) rfl rfl (any_of HT_.out (by kernel_rfl)) (fun _ _ _ h => h) (Or.inl ⟨by rfl, ?_⟩) ?_ ?_; rotate_left
     · intro w'; go_simp; with_reducible rfl
     rotate_left
     · simp only [ap]; rfl
     refine pure_ (i := 13) (N := some 20) (v := ?_) (a' := ?_) (bA 30 16383) rfl rfl (any_of HT_.out (by kernel_rfl)) (fun _ _ _ h => h) (Or.inl ⟨by rfl, ?_⟩) ?_ ?_; rotate_left
     · intro w'; go_simp; with_reducible rfl
     rotate_left
     · simp only [ap]; rfl
     refine pure_ (i := 14) (N := some 21) (v := ?_) (a' := ?_) (bA 30 32767) rfl rfl (any_of HT_.out (by kernel_rfl)) (fun _ _ _ h => h) (Or.inl ⟨by rfl, ?_⟩) ?_ ?_; rotate_left
     · intro w'; go_simp; with_reducible rfl
     rotate_left
     · simp only [ap]; rfl
     refine take_ (i := 15) (N := some 22) (v := ?_) (a' := ?_) (bA 30 65535) rfl rfl (take_ofW HT_.out HW_.out (by kernel_rfl)) (fun _ _ _ h => h) (Or.inl ⟨by rfl, ?_⟩) hHeld ?_ ?_; rotate_left
     · rintro w' ⟨s0, s1, s2, s3, s4, s5, s6, s7, s8, s9, s10, s11, s12, s13, s14, s15⟩; go_simp; with_reducible rfl
     rotate_left
     · simp only [ap]; rfl
     refine take_ (i := 16) (N := some 23) (v := ?_) (a' := ?_) (bA 30 131071) rfl rfl (take_ofW HT_.out HW_.out (by kernel_rfl)) (fun _ _ _ h => h) (Or.inl ⟨by rfl, ?_⟩) hHeld ?_ ?_; rotate_left
     · rintro w' ⟨s0, s1, s2, s3, s4, s5, s6, s7, s8, s9, s10, s11, s12, s13, s14, s15⟩; go_simp; with_reducible rfl
     rotate_left
     · simp only [ap]; rfl
     refine take_ (i := 18) (N := some 25) (v := ?_) (a' := ?_) (bA 30 393215) rfl rfl (take_ofW HT_.out HW_.out (by kernel_rfl)) (fun _ _ _ h => h) (Or.inl ⟨by rfl, ?_⟩) hHeld ?_ ?_; rotate_left
     · rintro w' ⟨s0, s1, s2, s3, s4, s5, s6, s7, s8, s9, s10, s11, s12, s13, s14, s15⟩; go_simp; with_reducible rfl
     rotate_left
     · simp only [ap]; rfl
     refine take_ (i := 19) (N := some 26) (v := ?_) (a' := ?_) (bA 30 917503) rfl rfl (take_ofW HT_.out HW_.out (by kernel_rfl)) (fun _ _ _ h => h) (Or.inl ⟨by rfl, ?_⟩) hHeld ?_ ?_; rotate_left
     · rintro w' ⟨s0, s1, s2, s3, s4, s5, s6, s7, s8, s9, s10, s11, s12, s13, s14, s15⟩; go_simp; with_reducible rfl
     rotate_left
     · simp only [ap]; rfl
     refine one_ (i := 17) (N := some 24) (bA 30 1048575) rfl rfl (one_of HT_.out (by kernel_rfl)) (by decide) (fun K hK => ?_); refine goes_ Tryz.func8 (by kernel_rfl) rfl #[.agg #[.int .i64 a0_0, .int .i64 a0_1, .int .i64 a0_2, .int .i64 a0_3, .int .i64 a0_4, .bool a0_5, .bool a0_6], .agg #[.int .i64 a1_0, .int .i64 a1_1, .int .i64 a1_2, .int .i64 a1_3, .int .i64 a1_4, .bool a1_5, .bool a1_6]] (by rfl) rfl rfl (by (try simp only [mp]); first | done | rfl | (simp only [ld]; rfl)) ?_; (with_reducible refine (span_Within.calls k a0_0 a0_1 a0_2 a0_3 a0_4 a0_5 a0_6 a1_0 a1_1 a1_2 a1_3 a1_4 a1_5 a1_6 t984 _ A22.out).mono ?_); rintro e w39 ⟨rfl, hb⟩; refine ⟨_, rfl, ?_⟩; replace HBW := hs HBW hb; clear hb; refine hK.out _ _ (hc8 HBW.out (hs8 HBW.out) hH0) (fun hHeld => ?_); clear hK K; refine norm_ (a' := ?_) ?_ ?_; rotate_left
     · (show Act.put _ (some 24) _ = _); simp only [ap]; rfl
     refine one_ (i := 20) (N := some 27) (bA 30 2097151) rfl rfl (one_of HT_.out (by kernel_rfl)) (by decide) (fun K hK => ?_); refine goes_ Tryz.func9 (by kernel_rfl) rfl #[.agg #[.int .i64 a0_0, .int .i64 a0_1, .int .i64 a0_2, .int .i64 a0_3, .int .i64 a0_4, .bool a0_5, .bool a0_6], .agg #[.int .i64 a1_0, .int .i64 a1_1, .int .i64 a1_2, .int .i64 a1_3, .int .i64 a1_4, .bool a1_5, .bool a1_6]] (by rfl) rfl rfl (by (try simp only [mp]); first | done | rfl | (simp only [ld]; rfl)) ?_; (with_reducible refine (serinetteref03_Within.calls k a0_0 a0_1 a0_2 a0_3 a0_4 a0_5 a0_6 a1_0 a1_1 a1_2 a1_3 a1_4 a1_5 a1_6 t985 _ A23.out).mono ?_); rintro e w40 ⟨rfl, hb⟩; refine ⟨_, rfl, ?_⟩; replace HBW := hs HBW hb; clear hb; refine hK.out _ _ (hc8 HBW.out (hs8 HBW.out) hH0) (fun hHeld => ?_); clear hK K; refine norm_ (a' := ?_) ?_ ?_; rotate_left
     · (show Act.put _ (some 27) _ = _); simp only [ap]; rfl
     refine pure_ (i := 21) (N := some 28) (v := ?_) (a' := ?_) (bA 30 4194303) rfl rfl (any_of HT_.out (by kernel_rfl)) (fun _ _ _ h => h) (Or.inl ⟨by rfl, ?_⟩) ?_ ?_; rotate_left
     · intro w'; go_simp; with_reducible rfl
     rotate_left
     · simp only [ap]; rfl
     refine pure_ (i := 22) (N := some 29) (v := ?_) (a' := ?_) (bA 30 8388607) rfl rfl (any_of HT_.out (by kernel_rfl)) (fun _ _ _ h => h) (Or.inl ⟨by rfl, ?_⟩) ?_ ?_; rotate_left
     · intro w'; go_simp; with_reducible rfl
     rotate_left
     · simp only [ap]; rfl
     refine pure_ (i := 23) (N := some 30) (v := ?_) (a' := ?_) (bA 30 16777215) rfl rfl (any_of HT_.out (by kernel_rfl)) (fun _ _ _ h => h) (Or.inl ⟨by rfl, ?_⟩) ?_ ?_; rotate_left
     · intro w'; go_simp; with_reducible rfl
     rotate_left
     · simp only [ap]; rfl
     refine take_ (i := 24) (N := some 31) (v := ?_) (a' := ?_) (bA 30 33554431) rfl rfl (take_ofW HT_.out HW_.out (by kernel_rfl)) (fun _ _ _ h => h) (Or.inl ⟨by rfl, ?_⟩) hHeld ?_ ?_; rotate_left
     · rintro w' ⟨s0, s1, s2, s3, s4, s5, s6, s7, s8, s9, s10, s11, s12, s13, s14, s15⟩; go_simp; with_reducible rfl
     rotate_left
     · simp only [ap]; rfl
     refine take_ (i := 26) (N := some 33) (v := ?_) (a' := ?_) (bA 30 100663295) rfl rfl (take_ofW HT_.out HW_.out (by kernel_rfl)) (fun _ _ _ h => h) (Or.inl ⟨by rfl, ?_⟩) hHeld ?_ ?_; rotate_left
     · rintro w' ⟨s0, s1, s2, s3, s4, s5, s6, s7, s8, s9, s10, s11, s12, s13, s14, s15⟩; go_simp; with_reducible rfl
     rotate_left
     · simp only [ap]; rfl
     refine one_ (i := 25) (N := some 32) (bA 30 134217727) rfl rfl (one_of HT_.out (by kernel_rfl)) (by decide) (fun K hK => ?_); refine goes_ Tryz.func10 (by kernel_rfl) rfl #[.agg #[.int .i64 a0_0, .int .i64 a0_1, .int .i64 a0_2, .int .i64 a0_3, .int .i64 a0_4, .bool a0_5, .bool a0_6]] (by rfl) rfl rfl (by (try simp only [mp]); first | done | rfl | (simp only [ld]; rfl)) ?_; (with_reducible refine (span_Text.calls k a0_0 a0_1 a0_2 a0_3 a0_4 a0_5 a0_6 t986 _ (by first | exact FI.tb2 HTb HB HBW | exact FI.tb1 HTb HB | exact FI.tb3 HTb HB HBW | exact FI.tb1 HTb ab_) A32.out).mono ?_); rintro e w41 ⟨rfl, hb⟩; refine ⟨_, rfl, ?_⟩; replace HBW := hs HBW hb; clear hb; refine hK.out _ _ (hc8 HBW.out (hs8 HBW.out) hH0) (fun hHeld => ?_); clear hK K; refine norm_ (a' := ?_) ?_ ?_; rotate_left
     · (show Act.put _ (some 32) _ = _); simp only [ap]; rfl
     refine one_ (i := 27) (N := some 34) (bA 30 268435455) rfl rfl (one_of HT_.out (by kernel_rfl)) (by decide) (fun K hK => ?_); refine goes_ Tryz.func11 (by kernel_rfl) rfl #[.agg #[.int .i64 a0_0, .int .i64 a0_1, .int .i64 a0_2, .int .i64 a0_3, .int .i64 a0_4, .bool a0_5, .bool a0_6]] (by rfl) rfl rfl (by (try simp only [mp]); first | done | rfl | (simp only [ld]; rfl)) ?_; (with_reducible refine (serinetteref03_Text.calls k a0_0 a0_1 a0_2 a0_3 a0_4 a0_5 a0_6 t987 _ (by first | exact FI.tb2 HTb HB HBW | exact FI.tb1 HTb HB | exact FI.tb3 HTb HB HBW | exact FI.tb1 HTb ab_) A33.out).mono ?_); rintro e w42 ⟨rfl, hb⟩; refine ⟨_, rfl, ?_⟩; replace HBW := hs HBW hb; clear hb; refine hK.out _ _ (hc8 HBW.out (hs8 HBW.out) hH0) (fun hHeld => ?_); clear hK K; refine norm_ (a' := ?_) ?_ ?_; rotate_left
     · (show Act.put _ (some 34) _ = _); simp only [ap]; rfl
     refine pure_ (i := 28) (N := some 35) (v := ?_) (a' := ?_) (bA 30 536870911) rfl rfl (any_of HT_.out (by kernel_rfl)) (fun _ _ _ h => h) (Or.inl ⟨by rfl, ?_⟩) ?_ ?_; rotate_left
     · intro w'; go_simp; with_reducible rfl
     rotate_left
     · simp only [ap]; rfl
     refine pure_ (i := 29) (N := some 36) (v := ?_) (a' := ?_) (bA 30 1073741823) rfl rfl (any_of HT_.out (by kernel_rfl)) (fun _ _ _ h => h) (Or.inl ⟨by rfl, ?_⟩) ?_ ?_; rotate_left
     · intro w'; go_simp; with_reducible rfl
     rotate_left
     · simp only [ap]; rfl
     replace BK977 := kb BK977 HBW.out; replace BK978 := kb BK978 HBW.out; replace BK979 := kb BK979 HBW.out; replace HB := hs HB HBW.out; refine done_ (done_of HT_.out (by kernel_rfl)) ?_; clear HBW hH0; (try go_wp2); go_meet
     case rel => exact ⟨_, ((t986.toList != t987.toList)), (by first | rfl | (simp; done) | (simp [*]; done)), H', ⟨by first | omega | exact Nat.le_refl _⟩, ⟨bk BK977.out⟩, ⟨bk BK978.out⟩, ⟨bk BK979.out⟩, ab2_⟩
 case rest =>
  clear HC4; obtain ⟨kq, x36_3, rfl, HA, HJ3, BK977, BK978, BK979, HB⟩ := hcut; cases kq with
  | zero => exact absurd HA.out (by simp [serinettelaw03_SpanSays.j0])
  | succ kj3 =>
   have H := HA.out; clear HA; simp only [serinettelaw03_SpanSays.j0] at H; by_cases c43 : x36_3 = true
   · subst c43; rw [if_pos rfl] at H; exact absurd (H.trans (congrArg some hr.out)) (by simp)
   ·
    replace c43 := Bool.eq_false_iff.mpr c43; subst c43; rw [if_neg (show ¬ (false = true) by decide)] at H; replace H := Option.bind_eq_some_iff.mp H; obtain ⟨⟨t988, t989, t990, t991, t992, t993, t994⟩, A440, H⟩ := H; (try dsimp only at H); have A44 := Aside0.mk A440; clear A440; replace H := Option.bind_eq_some_iff.mp H; obtain ⟨⟨t995, t996, t997, t998, t999, t1000, t1001⟩, A450, H⟩ := H; (try dsimp only at H); have A45 := Aside0.mk A450; clear A450; by_cases c46 : ((t988 == t995 && (t989 == t996)) && ((t990 == t997 && (t991 == t998)) && (t992 == t999 && (t993 == t1000 && (t994 == t1001))))) = true
    ·
     rw [if_pos c46] at H; have c46b0 : ((t988 == t995 && (t989 == t996)) && ((t990 == t997 && (t991 == t998)) && (t992 == t999 && (t993 == t1000 && (t994 == t1001))))) = true := c46; clear c46; replace H := Option.bind_eq_some_iff.mp H; obtain ⟨⟨t1002, t1003, t1004, t1005, t1006, t1007, t1008⟩, A470, H⟩ := H; (try dsimp only at H); have A47 := Aside0.mk A470; clear A470; replace H := Option.bind_eq_some_iff.mp H; obtain ⟨⟨t1009, t1010, t1011, t1012, t1013, t1014, t1015⟩, A480, H⟩ := H; (try dsimp only at H); have A48 := Aside0.mk A480; clear A480; by_cases c49 : ((t1002 == t1009 && (t1003 == t1010)) && ((t1004 == t1011 && (t1005 == t1012)) && (t1006 == t1013 && (t1007 == t1014 && (t1008 == t1015))))) = true
     ·
      rw [if_pos c49] at H; have c49b0 : ((t1002 == t1009 && (t1003 == t1010)) && ((t1004 == t1011 && (t1005 == t1012)) && (t1006 == t1013 && (t1007 == t1014 && (t1008 == t1015))))) = true := c49; clear c49; replace H := Option.bind_eq_some_iff.mp H; obtain ⟨⟨t1016, t1017, t1018, t1019, t1020, t1021, t1022⟩, A500, H⟩ := H; (try dsimp only at H); have A50 := Aside0.mk A500; clear A500; replace H := Option.bind_eq_some_iff.mp H; obtain ⟨⟨t1023, t1024, t1025, t1026, t1027, t1028, t1029⟩, A510, H⟩ := H; (try dsimp only at H); have A51 := Aside0.mk A510; clear A510; by_cases c52 : ((t1016 == t1023 && (t1017 == t1024)) && ((t1018 == t1025 && (t1019 == t1026)) && (t1020 == t1027 && (t1021 == t1028 && (t1022 == t1029))))) = true
      ·
       rw [if_pos c52] at H; have c52b0 : ((t1016 == t1023 && (t1017 == t1024)) && ((t1018 == t1025 && (t1019 == t1026)) && (t1020 == t1027 && (t1021 == t1028 && (t1022 == t1029))))) = true := c52; clear c52; replace H := Option.bind_eq_some_iff.mp H; obtain ⟨⟨t1030, t1031, t1032, t1033, t1034, t1035, t1036⟩, A530, H⟩ := H; (try dsimp only at H); have A53 := Aside0.mk A530; clear A530; replace H := Option.bind_eq_some_iff.mp H; obtain ⟨⟨t1037, t1038, t1039, t1040, t1041, t1042, t1043⟩, A540, H⟩ := H; (try dsimp only at H); have A54 := Aside0.mk A540; clear A540; by_cases c55 : ((t1030 == t1037 && (t1031 == t1038)) && ((t1032 == t1039 && (t1033 == t1040)) && (t1034 == t1041 && (t1035 == t1042 && (t1036 == t1043))))) = true
       ·
        rw [if_pos c55] at H; have c55b0 : ((t1030 == t1037 && (t1031 == t1038)) && ((t1032 == t1039 && (t1033 == t1040)) && (t1034 == t1041 && (t1035 == t1042 && (t1036 == t1043))))) = true := c55; clear c55; replace H := Option.bind_eq_some_iff.mp H; obtain ⟨⟨t1044, t1045, t1046, t1047, t1048, t1049, t1050⟩, A560, H⟩ := H; (try dsimp only at H); have A56 := Aside0.mk A560; clear A560; replace H := Option.bind_eq_some_iff.mp H; obtain ⟨⟨t1051, t1052, t1053, t1054, t1055, t1056, t1057⟩, A570, H⟩ := H; (try dsimp only at H); have A57 := Aside0.mk A570; clear A570; by_cases c58 : ((t1044 == t1051 && (t1045 == t1052)) && ((t1046 == t1053 && (t1047 == t1054)) && (t1048 == t1055 && (t1049 == t1056 && (t1050 == t1057))))) = true
        ·
         rw [if_pos c58] at H; have c58b0 : ((t1044 == t1051 && (t1045 == t1052)) && ((t1046 == t1053 && (t1047 == t1054)) && (t1048 == t1055 && (t1049 == t1056 && (t1050 == t1057))))) = true := c58; clear c58; replace H := Option.bind_eq_some_iff.mp H; obtain ⟨t1058, A590, H⟩ := H; (try dsimp only at H); have A59 := Aside0.mk A590; clear A590; obtain rfl := Option.some.inj H; (try go_wp2); replace BK977 := kd BK977; replace BK978 := kd BK978; replace BK979 := kd BK979; replace HB := Aside0.mk (below_drew1 HB.out); refine start_ (n := 41) (S := fun w' => w'.cell? ⟨gb977, 0, none⟩ = some (.int .i64 a0_0) ∧ w'.cell? ⟨gb977, 1, none⟩ = some (.int .i64 a0_1) ∧ w'.cell? ⟨gb977, 2, none⟩ = some (.int .i64 a0_2) ∧ w'.cell? ⟨gb977, 3, none⟩ = some (.int .i64 a0_3) ∧ w'.cell? ⟨gb977, 4, none⟩ = some (.int .i64 a0_4) ∧ w'.cell? ⟨gb977, 5, none⟩ = some (.bool a0_5) ∧ w'.cell? ⟨gb977, 6, none⟩ = some (.bool a0_6) ∧ w'.cell? ⟨gb978, 0, none⟩ = some (.int .i64 a1_0) ∧ w'.cell? ⟨gb978, 1, none⟩ = some (.int .i64 a1_1) ∧ w'.cell? ⟨gb978, 2, none⟩ = some (.int .i64 a1_2) ∧ w'.cell? ⟨gb978, 3, none⟩ = some (.int .i64 a1_3) ∧ w'.cell? ⟨gb978, 4, none⟩ = some (.int .i64 a1_4) ∧ w'.cell? ⟨gb978, 5, none⟩ = some (.bool a1_5) ∧ w'.cell? ⟨gb978, 6, none⟩ = some (.bool a1_6) ∧ w'.cell? ⟨gb979, 0, none⟩ = some (.int .i64 a2_0) ∧ w'.cell? ⟨gb979, 1, none⟩ = some (.int .i64 a2_1)) (ds := []) (bA 41 0) (by kernel_rfl) rfl rfl ⟨(blk_cell BK977.out 0).trans rfl, (blk_cell BK977.out 1).trans rfl, (blk_cell BK977.out 2).trans rfl, (blk_cell BK977.out 3).trans rfl, (blk_cell BK977.out 4).trans rfl, (blk_cell BK977.out 5).trans rfl, (blk_cell BK977.out 6).trans rfl, (blk_cell BK978.out 0).trans rfl, (blk_cell BK978.out 1).trans rfl, (blk_cell BK978.out 2).trans rfl, (blk_cell BK978.out 3).trans rfl, (blk_cell BK978.out 4).trans rfl, (blk_cell BK978.out 5).trans rfl, (blk_cell BK978.out 6).trans rfl, (blk_cell BK979.out 0).trans rfl, (blk_cell BK979.out 1).trans rfl⟩ (fun hHeld => ?_); refine with_tabW serinettelaw03_SpanSays.tab3 serinettelaw03_SpanSays.bits3 (fun HT_ HW_ => ?_); generalize wc.drew = w60 at BK977 BK978 BK979 HB hHeld ⊢; have hH0 := hHeld; have HBW := hbw w60; refine take_ (i := 0) (N := some 37) (v := ?_) (a' := ?_) (bA 41 1) rfl rfl (take_ofW HT_.out HW_.out (by kernel_rfl)) (fun _ _ _ h => h) (Or.inl ⟨by rfl, ?_⟩) hHeld ?_ ?_; rotate_left
         · rintro w' ⟨s0, s1, s2, s3, s4, s5, s6, s7, s8, s9, s10, s11, s12, s13, s14, s15⟩; go_simp; with_reducible rfl
         rotate_left
         · simp only [ap]; rfl
         refine take_ (i := 1) (N := some 38) (v := ?_) (a' := ?_) (bA 41 3) rfl rfl (take_ofW HT_.out HW_.out (by kernel_rfl)) (fun _ _ _ h => h) (Or.inl ⟨by rfl, ?_⟩) hHeld ?_ ?_; rotate_left
         · rintro w' ⟨s0, s1, s2, s3, s4, s5, s6, s7, s8, s9, s10, s11, s12, s13, s14, s15⟩; go_simp; with_reducible rfl
         rotate_left
         · simp only [ap]; rfl
         refine take_ (i := 3) (N := some 40) (v := ?_) (a' := ?_) (bA 41 11) rfl rfl (take_ofW HT_.out HW_.out (by kernel_rfl)) (fun _ _ _ h => h) (Or.inl ⟨by rfl, ?_⟩) hHeld ?_ ?_; rotate_left
         · rintro w' ⟨s0, s1, s2, s3, s4, s5, s6, s7, s8, s9, s10, s11, s12, s13, s14, s15⟩; go_simp; with_reducible rfl
         rotate_left
         · simp only [ap]; rfl
         refine take_ (i := 4) (N := some 41) (v := ?_) (a' := ?_) (bA 41 27) rfl rfl (take_ofW HT_.out HW_.out (by kernel_rfl)) (fun _ _ _ h => h) (Or.inl ⟨by rfl, ?_⟩) hHeld ?_ ?_; rotate_left
         · rintro w' ⟨s0, s1, s2, s3, s4, s5, s6, s7, s8, s9, s10, s11, s12, s13, s14, s15⟩; go_simp; with_reducible rfl
         rotate_left
         · simp only [ap]; rfl
         refine one_ (i := 2) (N := some 39) (bA 41 31) rfl rfl (one_of HT_.out (by kernel_rfl)) (by decide) (fun K hK => ?_); refine goes_ Tryz.func12 (by kernel_rfl) rfl #[.agg #[.int .i64 a0_0, .int .i64 a0_1, .int .i64 a0_2, .int .i64 a0_3, .int .i64 a0_4, .bool a0_5, .bool a0_6], .agg #[.int .i64 a1_0, .int .i64 a1_1, .int .i64 a1_2, .int .i64 a1_3, .int .i64 a1_4, .bool a1_5, .bool a1_6]] (by rfl) rfl rfl (by (try simp only [mp]); first | done | rfl | (simp only [ld]; rfl)) ?_; (with_reducible refine (span_Join.calls kj3 a0_0 a0_1 a0_2 a0_3 a0_4 a0_5 a0_6 a1_0 a1_1 a1_2 a1_3 a1_4 a1_5 a1_6 t988 t989 t990 t991 t992 t993 t994 _ A44.out).mono ?_); rintro e w61 ⟨rfl, hb⟩; refine ⟨_, rfl, ?_⟩; replace HBW := hs HBW hb; clear hb; refine hK.out _ _ (hc8 HBW.out (hs8 HBW.out) hH0) (fun hHeld => ?_); clear hK K; refine norm_ (a' := ?_) ?_ ?_; rotate_left
         · (show Act.put _ (some 39) _ = _); simp only [ap]; rfl
         refine one_ (i := 5) (N := some 42) (bA 41 63) rfl rfl (one_of HT_.out (by kernel_rfl)) (by decide) (fun K hK => ?_); refine goes_ Tryz.func13 (by kernel_rfl) rfl #[.agg #[.int .i64 a0_0, .int .i64 a0_1, .int .i64 a0_2, .int .i64 a0_3, .int .i64 a0_4, .bool a0_5, .bool a0_6], .agg #[.int .i64 a1_0, .int .i64 a1_1, .int .i64 a1_2, .int .i64 a1_3, .int .i64 a1_4, .bool a1_5, .bool a1_6]] (by rfl) rfl rfl (by (try simp only [mp]); first | done | rfl | (simp only [ld]; rfl)) ?_; (with_reducible refine (serinetteref03_Join.calls kj3 a0_0 a0_1 a0_2 a0_3 a0_4 a0_5 a0_6 a1_0 a1_1 a1_2 a1_3 a1_4 a1_5 a1_6 t995 t996 t997 t998 t999 t1000 t1001 _ A45.out).mono ?_); rintro e w62 ⟨rfl, hb⟩; refine ⟨_, rfl, ?_⟩; replace HBW := hs HBW hb; clear hb; refine hK.out _ _ (hc8 HBW.out (hs8 HBW.out) hH0) (fun hHeld => ?_); clear hK K; refine norm_ (a' := ?_) ?_ ?_; rotate_left
         · (show Act.put _ (some 42) _ = _); simp only [ap]; rfl
         refine pure_ (i := 6) (N := some 43) (v := ?_) (a' := ?_) (bA 41 127) rfl rfl (any_of HT_.out (by kernel_rfl)) (fun _ _ _ h => h) (Or.inl ⟨by rfl, ?_⟩) ?_ ?_; rotate_left
         · intro w'; go_simp; with_reducible rfl
         rotate_left
         · simp only [ap]; rfl
         refine pure_ (i := 7) (N := some 44) (v := ?_) (a' := ?_) (bA 41 255) rfl rfl (any_of HT_.out (by kernel_rfl)) (fun _ _ _ h => h) (Or.inl ⟨by rfl, ?_⟩) ?_ ?_; rotate_left
         · intro w'; go_simp; with_reducible rfl
         rotate_left
         · simp only [ap]; rfl
         refine take_ (i := 8) (N := some 45) (v := ?_) (a' := ?_) (bA 41 511) rfl rfl (take_ofW HT_.out HW_.out (by kernel_rfl)) (fun _ _ _ h => h) (Or.inl ⟨by rfl, ?_⟩) hHeld ?_ ?_; rotate_left
         · rintro w' ⟨s0, s1, s2, s3, s4, s5, s6, s7, s8, s9, s10, s11, s12, s13, s14, s15⟩; go_simp; with_reducible rfl
         rotate_left
         · simp only [ap]; rfl
         refine take_ (i := 9) (N := some 46) (v := ?_) (a' := ?_) (bA 41 1023) rfl rfl (take_ofW HT_.out HW_.out (by kernel_rfl)) (fun _ _ _ h => h) (Or.inl ⟨by rfl, ?_⟩) hHeld ?_ ?_; rotate_left
         · rintro w' ⟨s0, s1, s2, s3, s4, s5, s6, s7, s8, s9, s10, s11, s12, s13, s14, s15⟩; go_simp; with_reducible rfl
         rotate_left
         · simp only [ap]; rfl
         refine take_ (i := 11) (N := some 48) (v := ?_) (a' := ?_) (bA 41 3071) rfl rfl (take_ofW HT_.out HW_.out (by kernel_rfl)) (fun _ _ _ h => h) (Or.inl ⟨by rfl, ?_⟩) hHeld ?_ ?_; rotate_left
         · rintro w' ⟨s0, s1, s2, s3, s4, s5, s6, s7, s8, s9, s10, s11, s12, s13, s14, s15⟩; go_simp; with_reducible rfl
         rotate_left
         · simp only [ap]; rfl
         refine take_ (i := 12) (N := some 49) (v := ?_) (a' := ?_) (bA 41 7167) rfl rfl (take_ofW HT_.out HW_.out (by kernel_rfl)) (fun _ _ _ h => h) (Or.inl ⟨by rfl, ?_⟩) hHeld ?_ ?_; rotate_left
         · rintro w' ⟨s0, s1, s2, s3, s4, s5, s6, s7, s8, s9, s10, s11, s12, s13, s14, s15⟩; go_simp; with_reducible rfl
         rotate_left
         · simp only [ap]; rfl
         refine one_ (i := 10) (N := some 47) (bA 41 8191) rfl rfl (one_of HT_.out (by kernel_rfl)) (by decide) (fun K hK => ?_); refine goes_ Tryz.func14 (by kernel_rfl) rfl #[.agg #[.int .i64 a0_0, .int .i64 a0_1, .int .i64 a0_2, .int .i64 a0_3, .int .i64 a0_4, .bool a0_5, .bool a0_6], .agg #[.int .i64 a1_0, .int .i64 a1_1, .int .i64 a1_2, .int .i64 a1_3, .int .i64 a1_4, .bool a1_5, .bool a1_6]] (by rfl) rfl rfl (by (try simp only [mp]); first | done | rfl | (simp only [ld]; rfl)) ?_; (with_reducible refine (span_Meet.calls kj3 a0_0 a0_1 a0_2 a0_3 a0_4 a0_5 a0_6 a1_0 a1_1 a1_2 a1_3 a1_4 a1_5 a1_6 t1002 t1003 t1004 t1005 t1006 t1007 t1008 _ A47.out).mono ?_); rintro e w63 ⟨rfl, hb⟩; refine ⟨_, rfl, ?_⟩; replace HBW := hs HBW hb; clear hb; refine hK.out _ _ (hc8 HBW.out (hs8 HBW.out) hH0) (fun hHeld => ?_); clear hK K; refine norm_ (a' := ?_) ?_ ?_; rotate_left
         · (show Act.put _ (some 47) _ = _); simp only [ap]; rfl
         refine one_ (i := 13) (N := some 50) (bA 41 16383) rfl rfl (one_of HT_.out (by kernel_rfl)) (by decide) (fun K hK => ?_); refine goes_ Tryz.func15 (by kernel_rfl) rfl #[.agg #[.int .i64 a0_0, .int .i64 a0_1, .int .i64 a0_2, .int .i64 a0_3, .int .i64 a0_4, .bool a0_5, .bool a0_6], .agg #[.int .i64 a1_0, .int .i64 a1_1, .int .i64 a1_2, .int .i64 a1_3, .int .i64 a1_4, .bool a1_5, .bool a1_6]] (by rfl) rfl rfl (by (try simp only [mp]); first | done | rfl | (simp only [ld]; rfl)) ?_; (with_reducible refine (serinetteref03_Meet.calls kj3 a0_0 a0_1 a0_2 a0_3 a0_4 a0_5 a0_6 a1_0 a1_1 a1_2 a1_3 a1_4 a1_5 a1_6 t1009 t1010 t1011 t1012 t1013 t1014 t1015 _ A48.out).mono ?_); rintro e w64 ⟨rfl, hb⟩; refine ⟨_, rfl, ?_⟩; replace HBW := hs HBW hb; clear hb; refine hK.out _ _ (hc8 HBW.out (hs8 HBW.out) hH0) (fun hHeld => ?_); clear hK K; refine norm_ (a' := ?_) ?_ ?_; rotate_left
         · (show Act.put _ (some 50) _ = _); simp only [ap]; rfl
         refine pure_ (i := 14) (N := some 51) (v := ?_) (a' := ?_) (bA 41 32767) rfl rfl (any_of HT_.out (by kernel_rfl)) (fun _ _ _ h => h) (Or.inl ⟨by rfl, ?_⟩) ?_ ?_; rotate_left
         · intro w'; go_simp; with_reducible rfl
         rotate_left
         · simp only [ap]; rfl
         refine pure_ (i := 15) (N := some 52) (v := ?_) (a' := ?_) (bA 41 65535) rfl rfl (any_of HT_.out (by kernel_rfl)) (fun _ _ _ h => h) (Or.inl ⟨by rfl, ?_⟩) ?_ ?_; rotate_left
         · intro w'; go_simp; with_reducible rfl
         rotate_left
         · simp only [ap]; rfl
         refine pure_ (i := 16) (N := some 53) (v := ?_) (a' := ?_) (bA 41 131071) rfl rfl (any_of HT_.out (by kernel_rfl)) (fun _ _ _ h => h) (Or.inl ⟨by rfl, ?_⟩) ?_ ?_; rotate_left
         · intro w'; go_simp; with_reducible rfl
         rotate_left
         · simp only [ap]; rfl
         refine take_ (i := 17) (N := some 54) (v := ?_) (a' := ?_) (bA 41 262143) rfl rfl (take_ofW HT_.out HW_.out (by kernel_rfl)) (fun _ _ _ h => h) (Or.inl ⟨by rfl, ?_⟩) hHeld ?_ ?_; rotate_left
         · rintro w' ⟨s0, s1, s2, s3, s4, s5, s6, s7, s8, s9, s10, s11, s12, s13, s14, s15⟩; go_simp; with_reducible rfl
         rotate_left
         · simp only [ap]; rfl
         refine take_ (i := 18) (N := some 55) (v := ?_) (a' := ?_) (bA 41 524287) rfl rfl (take_ofW HT_.out HW_.out (by kernel_rfl)) (fun _ _ _ h => h) (Or.inl ⟨by rfl, ?_⟩) hHeld ?_ ?_; rotate_left
         · rintro w' ⟨s0, s1, s2, s3, s4, s5, s6, s7, s8, s9, s10, s11, s12, s13, s14, s15⟩; go_simp; with_reducible rfl
         rotate_left
         · simp only [ap]; rfl
         refine take_ (i := 20) (N := some 57) (v := ?_) (a' := ?_) (bA 41 1572863) rfl rfl (take_ofW HT_.out HW_.out (by kernel_rfl)) (fun _ _ _ h => h) (Or.inl ⟨by rfl, ?_⟩) hHeld ?_ ?_; rotate_left
         · rintro w' ⟨s0, s1, s2, s3, s4, s5, s6, s7, s8, s9, s10, s11, s12, s13, s14, s15⟩; go_simp; with_reducible rfl
         rotate_left
         · simp only [ap]; rfl
         refine take_ (i := 21) (N := some 58) (v := ?_) (a' := ?_) (bA 41 3670015) rfl rfl (take_ofW HT_.out HW_.out (by kernel_rfl)) (fun _ _ _ h => h) (Or.inl ⟨by rfl, ?_⟩) hHeld ?_ ?_; rotate_left
         · rintro w' ⟨s0, s1, s2, s3, s4, s5, s6, s7, s8, s9, s10, s11, s12, s13, s14, s15⟩; go_simp; with_reducible rfl
         rotate_left
         · simp only [ap]; rfl
         refine one_ (i := 19) (N := some 56) (bA 41 4194303) rfl rfl (one_of HT_.out (by kernel_rfl)) (by decide) (fun K hK => ?_); refine goes_ Tryz.func16 (by kernel_rfl) rfl #[.agg #[.int .i64 a0_0, .int .i64 a0_1, .int .i64 a0_2, .int .i64 a0_3, .int .i64 a0_4, .bool a0_5, .bool a0_6], .agg #[.int .i64 a1_0, .int .i64 a1_1, .int .i64 a1_2, .int .i64 a1_3, .int .i64 a1_4, .bool a1_5, .bool a1_6]] (by rfl) rfl rfl (by (try simp only [mp]); first | done | rfl | (simp only [ld]; rfl)) ?_; (with_reducible refine (span_Widen.calls kj3 a0_0 a0_1 a0_2 a0_3 a0_4 a0_5 a0_6 a1_0 a1_1 a1_2 a1_3 a1_4 a1_5 a1_6 t1016 t1017 t1018 t1019 t1020 t1021 t1022 _ A50.out).mono ?_); rintro e w65 ⟨rfl, hb⟩; refine ⟨_, rfl, ?_⟩; replace HBW := hs HBW hb; clear hb; refine hK.out _ _ (hc8 HBW.out (hs8 HBW.out) hH0) (fun hHeld => ?_); clear hK K; refine norm_ (a' := ?_) ?_ ?_; rotate_left
         · (show Act.put _ (some 56) _ = _); simp only [ap]; rfl
         refine one_ (i := 22) (N := some 59) (bA 41 8388607) rfl rfl (one_of HT_.out (by kernel_rfl)) (by decide) (fun K hK => ?_); refine goes_ Tryz.func17 (by kernel_rfl) rfl #[.agg #[.int .i64 a0_0, .int .i64 a0_1, .int .i64 a0_2, .int .i64 a0_3, .int .i64 a0_4, .bool a0_5, .bool a0_6], .agg #[.int .i64 a1_0, .int .i64 a1_1, .int .i64 a1_2, .int .i64 a1_3, .int .i64 a1_4, .bool a1_5, .bool a1_6]] (by rfl) rfl rfl (by (try simp only [mp]); first | done | rfl | (simp only [ld]; rfl)) ?_; (with_reducible refine (serinetteref03_Widen.calls kj3 a0_0 a0_1 a0_2 a0_3 a0_4 a0_5 a0_6 a1_0 a1_1 a1_2 a1_3 a1_4 a1_5 a1_6 t1023 t1024 t1025 t1026 t1027 t1028 t1029 _ A51.out).mono ?_); rintro e w66 ⟨rfl, hb⟩; refine ⟨_, rfl, ?_⟩; replace HBW := hs HBW hb; clear hb; refine hK.out _ _ (hc8 HBW.out (hs8 HBW.out) hH0) (fun hHeld => ?_); clear hK K; refine norm_ (a' := ?_) ?_ ?_; rotate_left
         · (show Act.put _ (some 59) _ = _); simp only [ap]; rfl
         refine pure_ (i := 23) (N := some 60) (v := ?_) (a' := ?_) (bA 41 16777215) rfl rfl (any_of HT_.out (by kernel_rfl)) (fun _ _ _ h => h) (Or.inl ⟨by rfl, ?_⟩) ?_ ?_; rotate_left
         · intro w'; go_simp; with_reducible rfl
         rotate_left
         · simp only [ap]; rfl
         refine pure_ (i := 24) (N := some 61) (v := ?_) (a' := ?_) (bA 41 33554431) rfl rfl (any_of HT_.out (by kernel_rfl)) (fun _ _ _ h => h) (Or.inl ⟨by rfl, ?_⟩) ?_ ?_; rotate_left
         · intro w'; go_simp; with_reducible rfl
         rotate_left
         · simp only [ap]; rfl
         refine pure_ (i := 25) (N := some 62) (v := ?_) (a' := ?_) (bA 41 67108863) rfl rfl (any_of HT_.out (by kernel_rfl)) (fun _ _ _ h => h) (Or.inl ⟨by rfl, ?_⟩) ?_ ?_; rotate_left
         · intro w'; go_simp; with_reducible rfl
         rotate_left
         · simp only [ap]; rfl
         refine take_ (i := 26) (N := some 63) (v := ?_) (a' := ?_) (bA 41 134217727) rfl rfl (take_ofW HT_.out HW_.out (by kernel_rfl)) (fun _ _ _ h => h) (Or.inl ⟨by rfl, ?_⟩) hHeld ?_ ?_; rotate_left
         · rintro w' ⟨s0, s1, s2, s3, s4, s5, s6, s7, s8, s9, s10, s11, s12, s13, s14, s15⟩; go_simp; with_reducible rfl
         rotate_left
         · simp only [ap]; rfl
         refine take_ (i := 28) (N := some 65) (v := ?_) (a' := ?_) (bA 41 402653183) rfl rfl (take_ofW HT_.out HW_.out (by kernel_rfl)) (fun _ _ _ h => h) (Or.inl ⟨by rfl, ?_⟩) hHeld ?_ ?_; rotate_left
         · rintro w' ⟨s0, s1, s2, s3, s4, s5, s6, s7, s8, s9, s10, s11, s12, s13, s14, s15⟩; go_simp; with_reducible rfl
         rotate_left
         · simp only [ap]; rfl
         refine one_ (i := 27) (N := some 64) (bA 41 536870911) rfl rfl (one_of HT_.out (by kernel_rfl)) (by decide) (fun K hK => ?_); refine goes_ Tryz.func18 (by kernel_rfl) rfl #[.agg #[.int .i64 a2_0, .int .i64 a2_1]] (by rfl) rfl rfl (by (try simp only [mp]); first | done | rfl | (simp only [ld]; rfl)) ?_; (with_reducible refine (span_Point.calls kj3 a2_0 a2_1 t1030 t1031 t1032 t1033 t1034 t1035 t1036 _ A53.out).mono ?_); rintro e w67 ⟨rfl, hb⟩; refine ⟨_, rfl, ?_⟩; replace HBW := hs HBW hb; clear hb; refine hK.out _ _ (hc8 HBW.out (hs8 HBW.out) hH0) (fun hHeld => ?_); clear hK K; refine norm_ (a' := ?_) ?_ ?_; rotate_left
         · (show Act.put _ (some 64) _ = _); simp only [ap]; rfl
         refine one_ (i := 29) (N := some 66) (bA 41 1073741823) rfl rfl (one_of HT_.out (by kernel_rfl)) (by decide) (fun K hK => ?_); refine goes_ Tryz.func19 (by kernel_rfl) rfl #[.agg #[.int .i64 a2_0, .int .i64 a2_1]] (by rfl) rfl rfl (by (try simp only [mp]); first | done | rfl | (simp only [ld]; rfl)) ?_; (with_reducible refine (serinetteref03_Point.calls kj3 a2_0 a2_1 t1037 t1038 t1039 t1040 t1041 t1042 t1043 _ A54.out).mono ?_); rintro e w68 ⟨rfl, hb⟩; refine ⟨_, rfl, ?_⟩; replace HBW := hs HBW hb; clear hb; refine hK.out _ _ (hc8 HBW.out (hs8 HBW.out) hH0) (fun hHeld => ?_); clear hK K; refine norm_ (a' := ?_) ?_ ?_; rotate_left
         · (show Act.put _ (some 66) _ = _); simp only [ap]; rfl
         refine pure_ (i := 30) (N := some 67) (v := ?_) (a' := ?_) (bA 41 2147483647) rfl rfl (any_of HT_.out (by kernel_rfl)) (fun _ _ _ h => h) (Or.inl ⟨by rfl, ?_⟩) ?_ ?_; rotate_left
         · intro w'; go_simp; with_reducible rfl
         rotate_left
         · simp only [ap]; rfl
         refine pure_ (i := 31) (N := some 68) (v := ?_) (a' := ?_) (bA 41 4294967295) rfl rfl (any_of HT_.out (by kernel_rfl)) (fun _ _ _ h => h) (Or.inl ⟨by rfl, ?_⟩) ?_ ?_; rotate_left
         · intro w'; go_simp; with_reducible rfl
         rotate_left
         · simp only [ap]; rfl
         refine pure_ (i := 32) (N := some 69) (v := ?_) (a' := ?_) (bA 41 8589934591) rfl rfl (any_of HT_.out (by kernel_rfl)) (fun _ _ _ h => h) (Or.inl ⟨by rfl, ?_⟩) ?_ ?_; rotate_left
         · intro w'; go_simp; with_reducible rfl
         rotate_left
         · simp only [ap]; rfl
         refine one_ (i := 33) (N := some 70) (bA 41 17179869183) rfl rfl (one_of HT_.out (by kernel_rfl)) (by decide) (fun K hK => ?_); refine goes_ Tryz.func20 (by kernel_rfl) rfl #[] (by rfl) rfl rfl (by (try simp only [mp]); first | done | rfl | (simp only [ld]; rfl)) ?_; (with_reducible refine (span_All.calls  t1044 t1045 t1046 t1047 t1048 t1049 t1050 _ A56.out).mono ?_); rintro e w69 ⟨rfl, hb⟩; refine ⟨_, rfl, ?_⟩; replace HBW := hs HBW hb; clear hb; refine hK.out _ _ (hc8 HBW.out (hs8 HBW.out) hH0) (fun hHeld => ?_); clear hK K; refine norm_ (a' := ?_) ?_ ?_; rotate_left
         · (show Act.put _ (some 70) _ = _); simp only [ap]; rfl
         refine one_ (i := 34) (N := some 71) (bA 41 34359738367) rfl rfl (one_of HT_.out (by kernel_rfl)) (by decide) (fun K hK => ?_); refine goes_ Tryz.func21 (by kernel_rfl) rfl #[] (by rfl) rfl rfl (by (try simp only [mp]); first | done | rfl | (simp only [ld]; rfl)) ?_; (with_reducible refine (serinetteref03_All.calls  t1051 t1052 t1053 t1054 t1055 t1056 t1057 _ A57.out).mono ?_); rintro e w70 ⟨rfl, hb⟩; refine ⟨_, rfl, ?_⟩; replace HBW := hs HBW hb; clear hb; refine hK.out _ _ (hc8 HBW.out (hs8 HBW.out) hH0) (fun hHeld => ?_); clear hK K; refine norm_ (a' := ?_) ?_ ?_; rotate_left
         · (show Act.put _ (some 71) _ = _); simp only [ap]; rfl
         refine pure_ (i := 35) (N := some 72) (v := ?_) (a' := ?_) (bA 41 68719476735) rfl rfl (any_of HT_.out (by kernel_rfl)) (fun _ _ _ h => h) (Or.inl ⟨by rfl, ?_⟩) ?_ ?_; rotate_left
         · intro w'; go_simp; with_reducible rfl
         rotate_left
         · simp only [ap]; rfl
         refine pure_ (i := 36) (N := some 73) (v := ?_) (a' := ?_) (bA 41 137438953471) rfl rfl (any_of HT_.out (by kernel_rfl)) (fun _ _ _ h => h) (Or.inl ⟨by rfl, ?_⟩) ?_ ?_; rotate_left
         · intro w'; go_simp; with_reducible rfl
         rotate_left
         · simp only [ap]; rfl
         refine pure_ (i := 37) (N := some 74) (v := ?_) (a' := ?_) (bA 41 274877906943) rfl rfl (any_of HT_.out (by kernel_rfl)) (fun _ _ _ h => h) (Or.inl ⟨by rfl, ?_⟩) ?_ ?_; rotate_left
         · intro w'; go_simp; with_reducible rfl
         rotate_left
         · simp only [ap]; rfl
         refine one_ (i := 38) (N := some 75) (bA 41 549755813887) rfl rfl (one_of HT_.out (by kernel_rfl)) (by decide) (fun K hK => ?_); refine goes_ Tryz.func22 (by kernel_rfl) rfl #[] (by rfl) rfl rfl (by (try simp only [mp]); first | done | rfl | (simp only [ld]; rfl)) ?_; (with_reducible refine (serinettelaw03_awake.calls kj3  t1058 _ (by first | exact FI.tb2 HTb HB HBW | exact FI.tb1 HTb HB | exact FI.tb3 HTb HB HBW | exact FI.tb1 HTb ab_) A59.out).mono ?_); rintro e w71 ⟨rfl, hb⟩; refine ⟨_, rfl, ?_⟩; replace HBW := hs HBW hb; clear hb; refine hK.out _ _ (hc8 HBW.out (hs8 HBW.out) hH0) (fun hHeld => ?_); clear hK K; refine norm_ (a' := ?_) ?_ ?_; rotate_left
         · (show Act.put _ (some 75) _ = _); simp only [ap]; rfl
         refine pure_ (i := 39) (N := some 76) (v := ?_) (a' := ?_) (bA 41 1099511627775) rfl rfl (any_of HT_.out (by kernel_rfl)) (fun _ _ _ h => h) (Or.inl ⟨by rfl, ?_⟩) ?_ ?_; rotate_left
         · intro w'; go_simp; with_reducible rfl
         rotate_left
         · simp only [ap]; rfl
         refine pure_ (i := 40) (N := some 6) (v := ?_) (a' := ?_) (bA 41 2199023255551) rfl rfl (any_of HT_.out (by kernel_rfl)) (fun _ _ _ h => h) (Or.inl ⟨by rfl, ?_⟩) ?_ ?_; rotate_left
         · intro w'; go_simp; with_reducible rfl
         rotate_left
         · simp only [ap]; rfl
         replace BK977 := kb BK977 HBW.out; replace BK978 := kb BK978 HBW.out; replace BK979 := kb BK979 HBW.out; replace HB := hs HB HBW.out; refine done_ (done_of HT_.out (by kernel_rfl)) ?_; clear HBW hH0; (try go_wp2); go_ret; exact en_
        · rw [if_neg c58] at H; (have c58b0 : ((t1044 == t1051 && (t1045 == t1052)) && ((t1046 == t1053 && (t1047 == t1054)) && (t1048 == t1055 && (t1049 == t1056 && (t1050 == t1057))))) = false := by simpa using c58); clear c58; exact absurd (H.trans (congrArg some hr.out)) (by simp)
       · rw [if_neg c55] at H; (have c55b0 : ((t1030 == t1037 && (t1031 == t1038)) && ((t1032 == t1039 && (t1033 == t1040)) && (t1034 == t1041 && (t1035 == t1042 && (t1036 == t1043))))) = false := by simpa using c55); clear c55; exact absurd (H.trans (congrArg some hr.out)) (by simp)
      · rw [if_neg c52] at H; (have c52b0 : ((t1016 == t1023 && (t1017 == t1024)) && ((t1018 == t1025 && (t1019 == t1026)) && (t1020 == t1027 && (t1021 == t1028 && (t1022 == t1029))))) = false := by simpa using c52); clear c52; exact absurd (H.trans (congrArg some hr.out)) (by simp)
     · rw [if_neg c49] at H; (have c49b0 : ((t1002 == t1009 && (t1003 == t1010)) && ((t1004 == t1011 && (t1005 == t1012)) && (t1006 == t1013 && (t1007 == t1014 && (t1008 == t1015))))) = false := by simpa using c49); clear c49; exact absurd (H.trans (congrArg some hr.out)) (by simp)
    · rw [if_neg c46] at H; (have c46b0 : ((t988 == t995 && (t989 == t996)) && ((t990 == t997 && (t991 == t998)) && (t992 == t999 && (t993 == t1000 && (t994 == t1001))))) = false := by simpa using c46); clear c46; exact absurd (H.trans (congrArg some hr.out)) (by simp)
end Go.Proofs.YtlibjgmnookakaaGreatDoor.SSpanSays
namespace Go.Proofs.YtlibjgmnookakaaGreatDoor.SSpanSays
open Go.RowKit Go.Proofs.YtlibjgmnookakaaGreatDoor.Wd.PrintWords Go.Proofs.YtlibjgmnookakaaGreatDoor.Plain
theorem w64 {n : Int} (h : I64 n) : wrap64 n = n := by unfold I64 at h; unfold wrap64; omega
theorem wu64 (n : Int) : IntKind.u64.wrap n = n % 18446744073709551616 := by simp [IntKind.wrap, IntKind.bits, IntKind.signed]
theorem ev_pos {α : Type} {c : Prop} [Decidable c] {f g : Nat → Option α} {r : α} (h : c) (k : Ev f r) : Ev (fun n => if c then f n else g n) r := by simpa only [if_pos h] using k
theorem ev_neg {α : Type} {c : Prop} [Decidable c] {f g : Nat → Option α} {r : α} (h : ¬ c) (k : Ev g r) : Ev (fun n => if c then f n else g n) r := by simpa only [if_neg h] using k
theorem ev_const {α : Type} {x : Option α} {r : α} (h : x = some r) : Ev (fun _ => x) r := ⟨0, fun _ _ => h⟩
theorem ev_bind {α β : Type} {x : Option α} {f : Nat → α → Option β} {a : α} {r : β} (h : x = some a) (k : Ev (fun n => f n a) r) : Ev (fun n => x.bind (f n)) r := by
  subst h
  exact k
theorem i64_of {n : Int} (h : (Lit.int .i64 n).wf = true) : I64 n := by
  simp [Lit.wf] at h
  exact h
theorem ev_eq {α : Type} {f : Nat → Option α} {r s : α} (h : Ev f r) (e : r = s) : Ev f s := e ▸ h
theorem ev_ite {α : Type} {c : Prop} [Decidable c] {f g : Nat → Option α} {r s : α} (h : c → Ev f r) (k : ¬ c → Ev g s) : Ev (fun n => if c then f n else g n) (if c then r else s) := by
  by_cases e : c
  · rw [if_pos e]; exact ev_pos e (h e)
  · rw [if_neg e]; exact ev_neg e (k e)
theorem size_is {n : Int} (h : I64 n) : ratio_size.f n = some (n.natAbs : Int) := by
  unfold I64 at h
  unfold ratio_size.f
  simp only [wu64]
  split
  · congr 1; omega
  · congr 1; omega
theorem divisor_l0 : ∀ (b a : Nat), Ev (fun k => ratio_divisor.l0 k (a : Int) (b : Int)) ((Nat.gcd a b : Nat) : Int) := by
  intro b
  induction b using Nat.strongRecOn with
  | ind b ih =>
    intro a
    refine Ev.step (f := fun k => if (b : Int) = 0 then (some (a : Int)) else (ratio_divisor.l0 k (b : Int) (Int.tmod (a : Int) (b : Int)))) (fun k => by simp only [ratio_divisor.l0]) ?_
    by_cases hb : b = 0
    · subst hb
      refine ev_pos rfl (ev_const ?_)
      simp
    · refine ev_neg (by omega) ?_
      have h := ih (a % b) (Nat.mod_lt _ (by omega)) b
      rw [Int.ofNat_tmod] at h
      rw [Nat.gcd_comm, Nat.gcd_rec, Nat.gcd_comm]
      exact h
theorem divisor_ev (a b : Nat) : Ev (fun k => ratio_divisor.f k (a : Int) (b : Int)) ((Nat.gcd a b : Nat) : Int) := divisor_l0 b a
theorem is_ev {a : Q} (h : I64Q a) : Ev (fun k => ratio_Is.f k a.1 a.2) (okQ a) := by
  obtain ⟨n, d⟩ := a
  obtain ⟨h1, h2⟩ := h
  simp only at h1 h2
  show Ev (fun k => ratio_Is.f k n d) (isQ n d)
  unfold ratio_Is.f
  by_cases c1 : d ≥ 1
  · refine ev_pos c1 ?_
    by_cases c2 : d ≤ 1073741824
    · refine ev_pos c2 ?_
      by_cases c3 : n ≥ (-1073741824)
      · refine ev_pos c3 ?_
        by_cases c4 : n ≤ 1073741824
        · refine ev_pos c4 (ev_bind (size_is h1) (ev_bind (size_is h2) (Ev.bind (divisor_ev n.natAbs d.natAbs) (ev_const ?_))))
          congr 1
          rw [Bool.eq_iff_iff, isQ_iff]
          simp only [beq_iff_eq]
          omega
        · exact ev_neg c4 (ev_const (by rw [isQ_false.2 (by omega)]))
      · exact ev_neg c3 (ev_const (by rw [isQ_false.2 (by omega)]))
    · exact ev_neg c2 (ev_const (by rw [isQ_false.2 (by omega)]))
  · exact ev_neg c1 (ev_const (by rw [isQ_false.2 (by omega)]))
theorem rdivisor_l0 : ∀ (b a : Nat), Ev (fun k => serinetteref01_Divisor.l0 k (a : Int) (b : Int)) ((Nat.gcd a b : Nat) : Int) := by
  intro b
  induction b using Nat.strongRecOn with
  | ind b ih =>
    intro a
    refine Ev.step (f := fun k => if (b : Int) = 0 then (some (a : Int)) else (serinetteref01_Divisor.l0 k (b : Int) (Int.tmod (a : Int) (b : Int)))) (fun k => by simp only [serinetteref01_Divisor.l0]) ?_
    by_cases hb : b = 0
    · subst hb
      refine ev_pos rfl (ev_const ?_)
      simp
    · refine ev_neg (by omega) ?_
      have h := ih (a % b) (Nat.mod_lt _ (by omega)) b
      rw [Int.ofNat_tmod] at h
      rw [Nat.gcd_comm, Nat.gcd_rec, Nat.gcd_comm]
      exact h
theorem rdivisor_ev {a b : Int} (ha : I64 a) (hb : I64 b) (ha' : a ≠ -9223372036854775808) (hb' : b ≠ -9223372036854775808) : Ev (fun k => serinetteref01_Divisor.f k a b) ((Nat.gcd a.natAbs b.natAbs : Nat) : Int) := by
  unfold I64 at ha hb
  have j1 : ∀ (x y : Int), x = (a.natAbs : Int) → y = (b.natAbs : Int) → Ev (fun k => serinetteref01_Divisor.j1 k x y) ((Nat.gcd a.natAbs b.natAbs : Nat) : Int) := by
    intro x y hx hy
    subst hx hy
    exact Ev.step (f := fun k => serinetteref01_Divisor.l0 k (a.natAbs : Int) (b.natAbs : Int)) (fun k => by simp only [serinetteref01_Divisor.j1]) (rdivisor_l0 _ _)
  have j0 : ∀ (x : Int), x = (a.natAbs : Int) → Ev (fun k => serinetteref01_Divisor.j0 k x b) ((Nat.gcd a.natAbs b.natAbs : Nat) : Int) := by
    intro x hx
    refine Ev.step (f := fun k => if b < 0 then (serinetteref01_Divisor.j1 k x (wrap64 (-b))) else (serinetteref01_Divisor.j1 k x b)) (fun k => by simp only [serinetteref01_Divisor.j0]) ?_
    by_cases c : b < 0
    · refine ev_pos c (j1 _ _ hx ?_)
      rw [w64 (by unfold I64; omega)]; omega
    · exact ev_neg c (j1 _ _ hx (by omega))
  unfold serinetteref01_Divisor.f
  by_cases c : a < 0
  · refine ev_pos c (j0 _ ?_)
    rw [w64 (by unfold I64; omega)]; omega
  · exact ev_neg c (j0 _ (by omega))
theorem ris_ev {a : Q} (h : I64Q a) : Ev (fun k => serinetteref01_Is.f k a.1 a.2) (okQ a) := by
  obtain ⟨n, d⟩ := a
  obtain ⟨h1, h2⟩ := h
  simp only at h1 h2
  show Ev (fun k => serinetteref01_Is.f k n d) (isQ n d)
  unfold serinetteref01_Is.f
  by_cases c1 : d ≥ 1
  · refine ev_pos c1 ?_
    by_cases c2 : d ≤ 1073741824
    · refine ev_pos c2 ?_
      by_cases c3 : n ≥ (-1073741824)
      · refine ev_pos c3 ?_
        by_cases c4 : n ≤ 1073741824
        · refine ev_pos c4 (Ev.bind (rdivisor_ev h1 h2 (by omega) (by omega)) (ev_const ?_))
          congr 1
          rw [Bool.eq_iff_iff, isQ_iff]
          simp only [beq_iff_eq]
          omega
        · exact ev_neg c4 (ev_const (by rw [isQ_false.2 (by omega)]))
      · exact ev_neg c3 (ev_const (by rw [isQ_false.2 (by omega)]))
    · exact ev_neg c2 (ev_const (by rw [isQ_false.2 (by omega)]))
  · exact ev_neg c1 (ev_const (by rw [isQ_false.2 (by omega)]))
theorem rclean_ev {a : Q} (h : I64Q a) : Ev (fun k => serinetteref01_Clean.f k a.1 a.2) (cleanQ a) := by
  unfold serinetteref01_Clean.f cleanQ
  refine Ev.bind (ris_ev h) ?_
  by_cases c : okQ a = true
  · exact ev_pos c (ev_const (by rw [if_pos c]))
  · exact ev_neg c (ev_const (by rw [if_neg c]; rfl))
theorem rboth_ev {a b : Q} (ha : I64Q a) (hb : I64Q b) : Ev (fun k => serinetteref01_both.f k a.1 a.2 b.1 b.2) (okQ a && okQ b) := by
  unfold serinetteref01_both.f
  refine Ev.bind (ris_ev ha) ?_
  by_cases c : okQ a = true
  · refine ev_pos c (Ev.bind (ris_ev hb) (ev_const ?_))
    rw [c]; rfl
  · refine ev_neg c (ev_const ?_)
    rw [Bool.not_eq_true] at c
    rw [c]; rfl
theorem mul_bound {x y A B : Int} (h1 : -A ≤ x) (h2 : x ≤ A) (h3 : -B ≤ y) (h4 : y ≤ B) : -(A * B) ≤ x * y ∧ x * y ≤ A * B := by
  have hx : x.natAbs ≤ A.toNat := by omega
  have hy : y.natAbs ≤ B.toNat := by omega
  have h := Nat.mul_le_mul hx hy
  rw [← Int.natAbs_mul] at h
  have e : ((A.toNat * B.toNat : Nat) : Int) = A * B := by
    rw [Int.natCast_mul, Int.toNat_of_nonneg (by omega), Int.toNat_of_nonneg (by omega)]
  omega
theorem okQ_mul {a b : Q} (ha : okQ a = true) (hb : okQ b = true) :
    (-1152921504606846976 ≤ a.1 * b.2 ∧ a.1 * b.2 ≤ 1152921504606846976) ∧ (-1152921504606846976 ≤ b.1 * a.2 ∧ b.1 * a.2 ≤ 1152921504606846976) ∧ (-1152921504606846976 ≤ a.2 * b.2 ∧ a.2 * b.2 ≤ 1152921504606846976) ∧ (-1152921504606846976 ≤ a.1 * b.1 ∧ a.1 * b.1 ≤ 1152921504606846976) ∧ (-1152921504606846976 ≤ a.2 * b.1 ∧ a.2 * b.1 ≤ 1152921504606846976) := by
  have h1 := okQ_bounds ha
  have h2 := okQ_bounds hb
  exact ⟨mul_bound (A := 1073741824) (B := 1073741824) (by omega) (by omega) (by omega) (by omega), mul_bound (A := 1073741824) (B := 1073741824) (by omega) (by omega) (by omega) (by omega), mul_bound (A := 1073741824) (B := 1073741824) (by omega) (by omega) (by omega) (by omega), mul_bound (A := 1073741824) (B := 1073741824) (by omega) (by omega) (by omega) (by omega), mul_bound (A := 1073741824) (B := 1073741824) (by omega) (by omega) (by omega) (by omega)⟩
theorem sign_is (x y : Int) : ratio_sign.f (decide (x < y)) (decide (x > y)) = some (sgn x y) := by
  unfold ratio_sign.f sgn
  by_cases c : x < y
  · simp [c]
  · by_cases c2 : x > y
    · simp [c, c2]
    · simp [c, c2]
theorem cmp_ev {a b : Q} (ha : I64Q a) (hb : I64Q b) : Ev (fun k => ratio_Cmp.f k a.1 a.2 b.1 b.2) (cmpQ a b) := by
  unfold ratio_Cmp.f cmpQ
  refine Ev.bind (is_ev ha) (Ev.bind (is_ev hb) ?_)
  by_cases c : okQ a = true
  · rw [if_pos c]
    refine ev_pos c ?_
    refine Ev.step (fun k => ratio_Cmp.j0.eq_2 ..) ?_
    by_cases c2 : okQ b = true
    · rw [if_pos c2]
      refine ev_neg (by simp [c2]) ?_
      have m := okQ_mul c c2
      rw [w64 (n := a.1 * b.2) (by unfold I64; omega), w64 (n := b.1 * a.2) (by unfold I64; omega)]
      exact ev_bind (sign_is _ _) (ev_const rfl)
    · rw [if_neg c2]
      rw [Bool.not_eq_true] at c2
      refine ev_pos (by simp [c2]) (ev_pos c (ev_const ?_))
      rw [c2]
      rfl
  · rw [if_neg c]
    refine ev_neg c ?_
    refine Ev.step (fun k => ratio_Cmp.j0.eq_2 ..) ?_
    refine ev_pos rfl (ev_neg c (ev_const ?_))
    by_cases c2 : okQ b = true
    · rw [if_pos c2, c2]; rfl
    · rw [if_neg c2]
      rw [Bool.not_eq_true] at c2
      rw [c2]; rfl
theorem rcmp_ev {a b : Q} (ha : I64Q a) (hb : I64Q b) : Ev (fun k => serinetteref01_Cmp.f k a.1 a.2 b.1 b.2) (cmpQ a b) := by
  unfold serinetteref01_Cmp.f cmpQ
  refine Ev.bind (ris_ev ha) ?_
  by_cases c : okQ a = true
  · rw [if_pos c]
    refine ev_pos c ?_
    refine Ev.step (fun k => serinetteref01_Cmp.j0.eq_2 ..) ?_
    refine ev_neg (by decide) (Ev.bind (ris_ev ha) (ev_pos c (Ev.bind (ris_ev hb) ?_)))
    by_cases c2 : okQ b = true
    · refine ev_eq (ev_pos c2 ?_) (if_pos c2).symm
      have m := okQ_mul c c2
      rw [w64 (n := a.1 * b.2) (by unfold I64; omega), w64 (n := b.1 * a.2) (by unfold I64; omega)]
      unfold sgn
      refine ev_ite (fun _ => ev_const rfl) (fun _ => ev_ite (fun _ => ev_const rfl) (fun _ => ev_const rfl))
    · exact ev_eq (ev_neg c2 (ev_const rfl)) (if_neg c2).symm
  · rw [if_neg c]
    refine ev_neg c (Ev.bind (ris_ev hb) ?_)
    refine Ev.step (fun k => serinetteref01_Cmp.j0.eq_2 ..) ?_
    by_cases c2 : okQ b = true
    · rw [if_pos c2]
      exact ev_neg (by simp [c2]) (Ev.bind (ris_ev ha) (ev_neg c (ev_const rfl)))
    · rw [if_neg c2]
      exact ev_pos (by simp [c2]) (ev_const rfl)
def validQ (a : Q) : Bool := okQ a || (a.1 == 0 && a.2 == 0)
theorem valid_ev {a : Q} (ha : I64Q a) : Ev (fun k => ratio_Valid.f k a.1 a.2) (validQ a) := by
  unfold ratio_Valid.f validQ
  by_cases c : (a.1 == 0 && (a.2 == 0)) = true
  · exact ev_pos c (ev_const (by rw [c]; simp))
  · refine ev_neg c (Ev.bind (is_ev ha) (ev_const ?_))
    rw [Bool.not_eq_true] at c
    rw [c]; simp
theorem rvalid_ev {a : Q} (ha : I64Q a) : Ev (fun k => serinetteref01_Valid.f k a.1 a.2) (validQ a) := by
  unfold serinetteref01_Valid.f validQ
  refine Ev.bind (ris_ev ha) ?_
  by_cases c : okQ a = true
  · exact ev_pos c (ev_const (by rw [c]; simp))
  · refine ev_neg c ?_
    rw [Bool.not_eq_true] at c
    by_cases c2 : a.1 = 0
    · exact ev_pos c2 (ev_const (by rw [c]; simp [c2]))
    · exact ev_neg c2 (ev_const (by rw [c]; simp [c2]))
theorem min_none (a b : Q) : Ev (fun k => ratio_Min.j0 k true a.1 a.2 b.1 b.2) (0, 0) := by
  refine Ev.step (fun k => ratio_Min.j0.eq_2 ..) (ev_pos rfl (ev_const rfl))
theorem min_ev {a b : Q} (ha : I64Q a) (hb : I64Q b) : Ev (fun k => ratio_Min.f k a.1 a.2 b.1 b.2) (minQ a b) := by
  unfold ratio_Min.f minQ
  refine Ev.bind (is_ev ha) (ev_ite (fun c => Ev.bind (is_ev hb) ?_) (fun _ => min_none a b))
  by_cases c2 : okQ b = true
  · rw [if_pos c2, c2]
    refine Ev.step (fun k => ratio_Min.j0.eq_2 ..) (ev_neg (by decide) (Ev.bind (cmp_ev hb ha) ?_))
    exact ev_ite (fun _ => ev_const rfl) (fun _ => ev_const rfl)
  · rw [if_neg c2]
    rw [Bool.not_eq_true] at c2
    rw [c2]
    exact min_none a b
theorem max_none (a b : Q) : Ev (fun k => ratio_Max.j0 k true a.1 a.2 b.1 b.2) (0, 0) := by
  refine Ev.step (fun k => ratio_Max.j0.eq_2 ..) (ev_pos rfl (ev_const rfl))
theorem max_ev {a b : Q} (ha : I64Q a) (hb : I64Q b) : Ev (fun k => ratio_Max.f k a.1 a.2 b.1 b.2) (maxQ a b) := by
  unfold ratio_Max.f maxQ
  refine Ev.bind (is_ev ha) (ev_ite (fun c => Ev.bind (is_ev hb) ?_) (fun _ => max_none a b))
  by_cases c2 : okQ b = true
  · rw [if_pos c2, c2]
    refine Ev.step (fun k => ratio_Max.j0.eq_2 ..) (ev_neg (by decide) (Ev.bind (cmp_ev hb ha) ?_))
    exact ev_ite (fun _ => ev_const rfl) (fun _ => ev_const rfl)
  · rw [if_neg c2]
    rw [Bool.not_eq_true] at c2
    rw [c2]
    exact max_none a b
theorem cmp_turn {a b : Q} (ha : okQ a = true) (hb : okQ b = true) : cmpQ b a = -(cmpQ a b) := by
  unfold cmpQ sgn
  rw [if_pos ha, if_pos hb, if_pos ha, if_pos hb]
  split <;> split <;> (try split) <;> (try split) <;> omega
theorem rmin_ev {a b : Q} (ha : I64Q a) (hb : I64Q b) : Ev (fun k => serinetteref01_Min.f k a.1 a.2 b.1 b.2) (minQ a b) := by
  unfold serinetteref01_Min.f minQ
  refine Ev.bind (rboth_ev ha hb) ?_
  by_cases c : okQ a = true
  · by_cases c2 : okQ b = true
    · rw [if_pos c, if_pos c2, cmp_turn c c2]
      refine ev_pos (by rw [c, c2]; rfl) (Ev.bind (rcmp_ev ha hb) ?_)
      by_cases c3 : cmpQ a b ≤ 0
      · exact ev_eq (ev_pos c3 (ev_const rfl)) (if_neg (by omega)).symm
      · exact ev_eq (ev_neg c3 (ev_const rfl)) (if_pos (by omega)).symm
    · rw [if_pos c, if_neg c2]; exact ev_neg (by simp [c2]) (ev_const rfl)
  · rw [if_neg c]; exact ev_neg (by simp [c]) (ev_const rfl)
theorem rmax_ev {a b : Q} (ha : I64Q a) (hb : I64Q b) : Ev (fun k => serinetteref01_Max.f k a.1 a.2 b.1 b.2) (maxQ a b) := by
  unfold serinetteref01_Max.f maxQ
  refine Ev.bind (rboth_ev ha hb) ?_
  by_cases c : okQ a = true
  · by_cases c2 : okQ b = true
    · rw [if_pos c, if_pos c2, cmp_turn c c2]
      refine ev_pos (by rw [c, c2]; rfl) (Ev.bind (rcmp_ev ha hb) ?_)
      by_cases c3 : cmpQ a b ≥ 0
      · exact ev_eq (ev_pos c3 (ev_const rfl)) (if_neg (by omega)).symm
      · exact ev_eq (ev_neg c3 (ev_const rfl)) (if_pos (by omega)).symm
    · rw [if_pos c, if_neg c2]; exact ev_neg (by simp [c2]) (ev_const rfl)
  · rw [if_neg c]; exact ev_neg (by simp [c]) (ev_const rfl)
abbrev tupS (s : Sq) : Int × Int × Int × Int × Int × Bool × Bool := (s.lo.1, s.lo.2, s.hi.1, s.hi.2, s.den, s.no, s.em)
structure I64S (s : Sq) : Prop where
  lo : I64Q s.lo
  hi : I64Q s.hi
  d : I64 s.den
theorem I64Q_ok {a : Q} (h : okQ a = true) : I64Q a := by have := okQ_bounds h; unfold I64Q I64; omega
theorem endQ_I64 {a : Q} (h : EndQ a) : I64Q a := by
  rcases h with h | h
  · exact I64Q_ok h
  · rw [h]; unfold I64Q I64; simp
theorem okS_i64 {s : Sq} (h : OkS s) : I64S s := ⟨endQ_I64 h.lo, endQ_I64 h.hi, by have := h.d0; have := h.d1; unfold I64; omega⟩
theorem validQ_iff (a : Q) : validQ a = true ↔ EndQ a := by
  obtain ⟨a1, a2⟩ := a
  unfold validQ EndQ
  simp
def bodyB (s : Sq) : Bool := if s.em = true then (if (s.lo.1 == 0 && (s.lo.2 == 0)) = true then (if (s.hi.1 == 0 && (s.hi.2 == 0)) = true then (s.den == 0) else false) else false) else (if okQ s.lo = true then (if okQ s.hi = true then decide (cmpQ s.lo s.hi ≤ 0) else true) else true)
def okB (s : Sq) : Bool := if validQ s.lo = true then (if validQ s.hi = true then (if s.den < 0 then false else if decide (s.den > 1073741824) = true then false else bodyB s) else false) else false
theorem svalid_j0 {s : Sq} (hs : I64S s) (c : Bool) : Ev (fun k => span_Valid.j0 k c s.lo.1 s.lo.2 s.hi.1 s.hi.2 s.den s.no s.em) (if c = true then false else bodyB s) :=
  Ev.step (fun k => span_Valid.j0.eq_2 ..) (ev_ite (fun _ => ev_const rfl) (fun _ => ev_ite (fun _ => ev_ite (fun _ => ev_ite (fun _ => ev_const rfl) (fun _ => ev_const rfl)) (fun _ => ev_const rfl)) (fun _ => Ev.bind (is_ev hs.lo) (ev_ite (fun _ => Ev.bind (is_ev hs.hi) (ev_ite (fun _ => Ev.bind (cmp_ev hs.lo hs.hi) (ev_const rfl)) (fun _ => ev_const rfl))) (fun _ => ev_const rfl)))))
theorem svalid_ev {s : Sq} (hs : I64S s) : Ev (fun k => span_Valid.f k s.lo.1 s.lo.2 s.hi.1 s.hi.2 s.den s.no s.em) (okB s) := by
  unfold span_Valid.f okB
  exact Ev.bind (valid_ev hs.lo) (ev_ite (fun _ => Ev.bind (valid_ev hs.hi) (ev_ite (fun _ => ev_ite (fun _ => ev_eq (svalid_j0 hs true) rfl) (fun _ => svalid_j0 hs _)) (fun _ => ev_eq (svalid_j0 hs true) rfl))) (fun _ => ev_eq (svalid_j0 hs true) rfl))
theorem okB_iff (s : Sq) : okB s = true ↔ OkS s := by
  unfold okB
  by_cases v1 : validQ s.lo = true
  · by_cases v2 : validQ s.hi = true
    · rw [if_pos v1, if_pos v2]
      rw [validQ_iff] at v1 v2
      by_cases d0 : s.den < 0
      · rw [if_pos d0]; exact ⟨fun h => (by cases h), fun h => absurd h.d0 (by omega)⟩
      · by_cases d1 : s.den > 1073741824
        · rw [if_neg d0, if_pos (decide_eq_true d1)]; exact ⟨fun h => (by cases h), fun h => absurd h.d1 (by omega)⟩
        · rw [if_neg d0, if_neg (by simpa using d1)]
          unfold bodyB
          by_cases e : s.em = true
          · rw [if_pos e]
            constructor
            · intro h
              split at h
              · split at h
                · rename_i a b
                  simp at a b h
                  exact ⟨v1, v2, by omega, by omega, fun _ => ⟨Prod.ext a.1 a.2, Prod.ext b.1 b.2, h⟩, fun k => (by rw [e] at k; cases k)⟩
                · cases h
              · cases h
            · intro h
              obtain ⟨a, b, c⟩ := h.em e
              rw [a, b, c]; rfl
          · rw [if_neg e]
            have e' : s.em = false := by simpa using e
            constructor
            · intro h
              refine ⟨v1, v2, by omega, by omega, fun k => absurd k e, fun _ o1 o2 => ?_⟩
              rw [if_pos o1, if_pos o2] at h
              exact (cmp_le o1 o2).1 (of_decide_eq_true h)
            · intro h
              split
              · rename_i o1
                split
                · rename_i o2
                  exact decide_eq_true ((cmp_le o1 o2).2 (h.le e' o1 o2))
                · rfl
              · rfl
    · rw [if_pos v1, if_neg v2]; exact ⟨fun h => (by cases h), fun h => absurd ((validQ_iff _).2 h.hi) v2⟩
  · rw [if_neg v1]; exact ⟨fun h => (by cases h), fun h => absurd ((validQ_iff _).2 h.lo) v1⟩
def allS : Sq := ⟨(0, 0), (0, 0), 0, true, false⟩
theorem all_ok : OkS allS := ⟨.inr rfl, .inr rfl, by simp [allS], by simp [allS], fun h => (by simp [allS] at h), fun _ o => absurd o end_none⟩
def cleanS (s : Sq) : Sq := if okB s = true then s else allS
theorem clean_okS (s : Sq) : OkS (cleanS s) := by
  unfold cleanS
  split
  · rename_i h; exact (okB_iff s).1 h
  · exact all_ok
theorem clean_self {s : Sq} (h : OkS s) : cleanS s = s := by unfold cleanS; rw [if_pos ((okB_iff s).2 h)]
theorem sclean_ev {s : Sq} (hs : I64S s) : Ev (fun k => span_valid.f k s.lo.1 s.lo.2 s.hi.1 s.hi.2 s.den s.no s.em) (tupS (cleanS s)) := by
  unfold span_valid.f
  refine Ev.bind (svalid_ev hs) ?_
  by_cases h : okB s = true
  · have e : cleanS s = s := by unfold cleanS; rw [if_pos h]
    rw [e]; exact ev_pos h (ev_const rfl)
  · have e : cleanS s = allS := by unfold cleanS; rw [if_neg h]
    rw [e]; exact ev_neg h (ev_const rfl)
def denB (c : Sq) (q : Q) : Bool := if c.den = 0 then true else (Int.tmod c.den q.2 == 0)
def hiB (c : Sq) (q : Q) : Bool := if okQ c.hi = true then (if cmpQ q c.hi > 0 then false else denB c q) else denB c q
def hasB (c : Sq) (q : Q) : Bool := if okQ q = true then (if c.em = true then false else (if okQ c.lo = true then (if cmpQ q c.lo < 0 then false else hiB c q) else hiB c q)) else c.no
theorem den_ev {c : Sq} {q : Q} (o : okQ q = true) : Ev (fun _ : Nat => if c.den = 0 then some true else (if q.2 = 0 then none else some ((Int.tmod c.den q.2) == 0))) (denB c q) := by
  unfold denB
  have := okQ_pos o
  exact ev_ite (fun _ => ev_const rfl) (fun _ => ev_neg (by omega) (ev_const rfl))
theorem shas_j0 {c : Sq} {q : Q} (o : okQ q = true) (b : Bool) : Ev (fun k => span_Has.j0 k b c.lo.1 c.lo.2 c.hi.1 c.hi.2 c.den c.no c.em q.1 q.2) (if b = true then false else denB c q) :=
  Ev.step (fun k => span_Has.j0.eq_2 ..) (ev_ite (fun _ => ev_const rfl) (fun _ => den_ev o))
theorem thas_j0 {c : Sq} {q : Q} (o : okQ q = true) (b : Bool) : Ev (fun k => serinetteref03_Has.j0 k b c.lo.1 c.lo.2 c.hi.1 c.hi.2 c.den c.no c.em q.1 q.2) (if b = true then false else denB c q) :=
  Ev.step (fun k => serinetteref03_Has.j0.eq_2 ..) (ev_ite (fun _ => ev_const rfl) (fun _ => den_ev o))
theorem shas_ev {s : Sq} {q : Q} (hs : I64S s) (hq : I64Q q) : Ev (fun k => span_Has.f k s.lo.1 s.lo.2 s.hi.1 s.hi.2 s.den s.no s.em q.1 q.2) (hasB (cleanS s) q) := by
  unfold span_Has.f hasB
  have hi := okS_i64 (clean_okS s)
  have T : okQ q = true → Ev (fun k => (ratio_Is.f k (cleanS s).hi.1 (cleanS s).hi.2).bind fun t160 => (if t160 = true then ((ratio_Cmp.f k q.1 q.2 (cleanS s).hi.1 (cleanS s).hi.2).bind fun t161 => span_Has.j0 k (decide (t161 > 0)) (cleanS s).lo.1 (cleanS s).lo.2 (cleanS s).hi.1 (cleanS s).hi.2 (cleanS s).den (cleanS s).no (cleanS s).em q.1 q.2) else span_Has.j0 k false (cleanS s).lo.1 (cleanS s).lo.2 (cleanS s).hi.1 (cleanS s).hi.2 (cleanS s).den (cleanS s).no (cleanS s).em q.1 q.2)) (hiB (cleanS s) q) := fun o => by
    refine Ev.bind (is_ev hi.hi) ?_
    unfold hiB
    by_cases o2 : okQ (cleanS s).hi = true
    · simp only [if_pos o2]
      refine Ev.bind (cmp_ev hq hi.hi) (ev_eq (shas_j0 o _) ?_)
      by_cases h : cmpQ q (cleanS s).hi > 0 <;> simp [h]
    · simp only [if_neg o2]
      exact ev_eq (shas_j0 o false) (by simp)
  exact Ev.bind (sclean_ev hs) (Ev.bind (is_ev hq) (ev_ite (fun o => ev_ite (fun _ => ev_eq (shas_j0 o true) (if_pos rfl)) (fun _ => Ev.bind (is_ev hi.lo) (ev_ite (fun _ => Ev.bind (cmp_ev hq hi.lo) (ev_ite (fun _ => ev_eq (shas_j0 o true) (if_pos rfl)) (fun _ => T o))) (fun _ => T o)))) (fun _ => ev_const rfl)))
theorem tvalid_j0 {s : Sq} (hs : I64S s) (c : Bool) : Ev (fun k => serinetteref03_Valid.j0 k c s.lo.1 s.lo.2 s.hi.1 s.hi.2 s.den s.no s.em) (if c = true then false else (if okQ s.lo = true then (if okQ s.hi = true then decide (cmpQ s.lo s.hi ≤ 0) else true) else true)) :=
  Ev.step (fun k => serinetteref03_Valid.j0.eq_2 ..) (ev_ite (fun _ => ev_const rfl) (fun _ => Ev.bind (ris_ev hs.lo) (ev_ite (fun _ => Ev.bind (ris_ev hs.hi) (ev_ite (fun _ => Ev.bind (rcmp_ev hs.lo hs.hi) (ev_const rfl)) (fun _ => ev_const rfl))) (fun _ => ev_const rfl))))
theorem zeroQ {a : Q} : (a.1 == 0 && (a.2 == 0)) = true ↔ a = (0, 0) := by
  obtain ⟨a1, a2⟩ := a
  simp
theorem tvalid_ev {s : Sq} (hs : I64S s) : Ev (fun k => serinetteref03_Valid.f k s.lo.1 s.lo.2 s.hi.1 s.hi.2 s.den s.no s.em) (okB s) := by
  unfold serinetteref03_Valid.f
  by_cases e : s.em = true
  · refine ev_pos e (Ev.bind (g := fun _ => serinetteref01_None.f) (a := (0, 0)) (ev_const rfl) ?_)
    by_cases h1 : (s.lo.1 == 0 && (s.lo.2 == 0)) = true
    · refine ev_pos h1 (Ev.bind (g := fun _ => serinetteref01_None.f) (a := (0, 0)) (ev_const rfl) ?_)
      by_cases h2 : (s.hi.1 == 0 && (s.hi.2 == 0)) = true
      · refine ev_pos h2 (ev_const ?_)
        rw [zeroQ] at h1 h2
        congr 1
        rw [Bool.eq_iff_iff, okB_iff]
        constructor
        · intro d
          have d : s.den = 0 := by simpa using d
          exact ⟨.inr h1, .inr h2, by omega, by omega, fun _ => ⟨h1, h2, d⟩, fun k => (by rw [e] at k; cases k)⟩
        · intro k
          simpa using (k.em e).2.2
      · refine ev_neg h2 (ev_const ?_)
        congr 1
        rw [zeroQ] at h2
        symm; rw [Bool.eq_false_iff, Ne, okB_iff]
        exact fun k => h2 (k.em e).2.1
    · refine ev_neg h1 (ev_const ?_)
      congr 1
      rw [zeroQ] at h1
      symm; rw [Bool.eq_false_iff, Ne, okB_iff]
      exact fun k => h1 (k.em e).1
  · refine ev_neg e (ev_eq (Ev.bind (rvalid_ev hs.lo) (ev_ite (fun _ => Ev.bind (rvalid_ev hs.hi) (ev_ite (fun _ => ev_ite (fun _ => ev_eq (tvalid_j0 hs true) rfl) (fun _ => tvalid_j0 hs _)) (fun _ => ev_eq (tvalid_j0 hs true) rfl))) (fun _ => ev_eq (tvalid_j0 hs true) rfl))) ?_)
    unfold okB bodyB
    rw [if_neg e]
    rfl
theorem tclean_ev {s : Sq} (hs : I64S s) : Ev (fun k => serinetteref03_Clean.f k s.lo.1 s.lo.2 s.hi.1 s.hi.2 s.den s.no s.em) (tupS (cleanS s)) := by
  unfold serinetteref03_Clean.f
  refine Ev.bind (tvalid_ev hs) ?_
  by_cases h : okB s = true
  · have e : cleanS s = s := by unfold cleanS; rw [if_pos h]
    rw [e]; exact ev_pos h (ev_const rfl)
  · have e : cleanS s = allS := by unfold cleanS; rw [if_neg h]
    rw [e]; exact ev_neg h (ev_const rfl)
theorem thas_ev {s : Sq} {q : Q} (hs : I64S s) (hq : I64Q q) : Ev (fun k => serinetteref03_Has.f k s.lo.1 s.lo.2 s.hi.1 s.hi.2 s.den s.no s.em q.1 q.2) (hasB (cleanS s) q) := by
  unfold serinetteref03_Has.f hasB
  have hi := okS_i64 (clean_okS s)
  have T : okQ q = true → Ev (fun k => (serinetteref01_Is.f k (cleanS s).hi.1 (cleanS s).hi.2).bind fun t160 => (if t160 = true then ((serinetteref01_Cmp.f k q.1 q.2 (cleanS s).hi.1 (cleanS s).hi.2).bind fun t161 => serinetteref03_Has.j0 k (decide (t161 > 0)) (cleanS s).lo.1 (cleanS s).lo.2 (cleanS s).hi.1 (cleanS s).hi.2 (cleanS s).den (cleanS s).no (cleanS s).em q.1 q.2) else serinetteref03_Has.j0 k false (cleanS s).lo.1 (cleanS s).lo.2 (cleanS s).hi.1 (cleanS s).hi.2 (cleanS s).den (cleanS s).no (cleanS s).em q.1 q.2)) (hiB (cleanS s) q) := fun o => by
    refine Ev.bind (ris_ev hi.hi) ?_
    unfold hiB
    by_cases o2 : okQ (cleanS s).hi = true
    · simp only [if_pos o2]
      refine Ev.bind (rcmp_ev hq hi.hi) (ev_eq (thas_j0 o _) ?_)
      by_cases h : cmpQ q (cleanS s).hi > 0 <;> simp [h]
    · simp only [if_neg o2]
      exact ev_eq (thas_j0 o false) (by simp)
  exact Ev.bind (tclean_ev hs) (Ev.bind (ris_ev hq) (ev_ite (fun o => ev_ite (fun _ => ev_eq (thas_j0 o true) (if_pos rfl)) (fun _ => Ev.bind (ris_ev hi.lo) (ev_ite (fun _ => Ev.bind (rcmp_ev hq hi.lo) (ev_ite (fun _ => ev_eq (thas_j0 o true) (if_pos rfl)) (fun _ => T o))) (fun _ => T o)))) (fun _ => ev_const rfl)))
theorem sdivisor_l0 : ∀ (b a : Nat), Ev (fun k => span_divisor.l0 k (a : Int) (b : Int)) ((Nat.gcd a b : Nat) : Int) := by
  intro b
  induction b using Nat.strongRecOn with
  | ind b ih =>
    intro a
    refine Ev.step (fun k => span_divisor.l0.eq_2 ..) ?_
    by_cases hb : b = 0
    · subst hb
      refine ev_pos rfl (ev_const ?_)
      simp
    · refine ev_neg (by omega) ?_
      have h := ih (a % b) (Nat.mod_lt _ (by omega)) b
      rw [Int.ofNat_tmod] at h
      rw [Nat.gcd_comm, Nat.gcd_rec, Nat.gcd_comm]
      exact h
theorem comm_ev {a b : Int} (ha : 0 ≤ a) (ha2 : a ≤ 1073741824) (hb : 0 ≤ b) (hb2 : b ≤ 1073741824) : Ev (fun k => span_common.f k a b) (comm a b) := by
  have no : ∀ x y : Int, Ev (fun k => span_common.j0 k x y true) 0 := fun x y => Ev.step (fun k => span_common.j0.eq_2 ..) (ev_pos rfl (ev_const rfl))
  unfold span_common.f comm
  by_cases h0 : a = 0
  · rw [if_pos (show a = 0 ∨ b = 0 from .inl h0)]; exact ev_pos h0 (no _ _)
  · refine ev_neg h0 ?_
    by_cases h1 : b = 0
    · rw [if_pos (show a = 0 ∨ b = 0 from .inr h1)]
      rw [show (b == 0) = true by simpa using h1]
      exact no _ _
    · rw [if_neg (show ¬ (a = 0 ∨ b = 0) by omega)]
      rw [show (b == 0) = false by simpa using h1]
      obtain ⟨m, rfl⟩ : ∃ m : Nat, a = m := ⟨a.toNat, by omega⟩
      obtain ⟨n, rfl⟩ : ∃ n : Nat, b = n := ⟨b.toNat, by omega⟩
      have hd : Ev (fun k => span_divisor.f k (m : Int) (n : Int)) ((Nat.gcd m n : Nat) : Int) := sdivisor_l0 n m
      refine Ev.step (fun k => span_common.j0.eq_2 ..) (ev_neg (by decide) (Ev.bind hd ?_))
      have hg : 0 < Nat.gcd m n := Nat.gcd_pos_of_pos_left _ (by omega)
      simp only [Int.natAbs_natCast]
      have e : Int.tdiv (m : Int) ((Nat.gcd m n : Nat) : Int) = (m : Int) / ((Nat.gcd m n : Nat) : Int) := Int.tdiv_eq_ediv_of_nonneg (by omega)
      have b1 : 0 ≤ (m : Int) / ((Nat.gcd m n : Nat) : Int) := Int.ediv_nonneg (by omega) (by omega)
      have b2 : (m : Int) / ((Nat.gcd m n : Nat) : Int) ≤ m := Int.ediv_le_self _ (by omega)
      rw [e, w64 (n := (m : Int) / ((Nat.gcd m n : Nat) : Int)) (by unfold I64; omega)]
      have b3 : (m : Int) / ((Nat.gcd m n : Nat) : Int) * n ≤ 1073741824 * 1073741824 := Int.mul_le_mul (by omega) hb2 (by omega) (by omega)
      have b4 : 0 ≤ (m : Int) / ((Nat.gcd m n : Nat) : Int) * n := Int.mul_nonneg b1 (by omega)
      rw [w64 (n := (m : Int) / ((Nat.gcd m n : Nat) : Int) * n) (by unfold I64; omega)]
      exact ev_neg (by omega) (ev_ite (fun _ => ev_const rfl) (fun _ => ev_const rfl))
def loJ (p q : Sq) : Q := if okQ p.lo = true then (if okQ q.lo = true then minQ p.lo q.lo else (0, 0)) else (0, 0)
def hiJ (p q : Sq) : Q := if okQ p.hi = true then (if okQ q.hi = true then maxQ p.hi q.hi else (0, 0)) else (0, 0)
theorem sjoin_j3 {p q : Sq} (hp : I64S p) (hq : I64S q) (l1 l2 d : Int) (n e : Bool) : Ev (fun k => span_Join.j3 k p.lo.1 p.lo.2 p.hi.1 p.hi.2 p.den p.no p.em q.lo.1 q.lo.2 q.hi.1 q.hi.2 q.den q.no q.em l1 l2 0 0 d n e) (l1, l2, (hiJ p q).1, (hiJ p q).2, d, n, e) := by
  refine Ev.step (fun k => span_Join.j3.eq_2 ..) (Ev.bind (is_ev hp.hi) ?_)
  unfold hiJ
  by_cases o1 : okQ p.hi = true
  · refine ev_pos o1 (Ev.bind (is_ev hq.hi) ?_)
    by_cases o2 : okQ q.hi = true
    · simp only [if_pos o1, if_pos o2]
      exact Ev.bind (max_ev hp.hi hq.hi) (ev_const rfl)
    · simp only [if_pos o1, if_neg o2]
      exact ev_const rfl
  · simp only [if_neg o1]
    exact ev_const rfl
theorem sjoin_j2 {p q : Sq} (hp : I64S p) (hq : I64S q) (c : Bool) (d : Int) (n e : Bool) : Ev (fun k => span_Join.j2 k c p.lo.1 p.lo.2 p.hi.1 p.hi.2 p.den p.no p.em q.lo.1 q.lo.2 q.hi.1 q.hi.2 q.den q.no q.em 0 0 0 0 d n e) (if c = true then ((minQ p.lo q.lo).1, (minQ p.lo q.lo).2, (hiJ p q).1, (hiJ p q).2, d, n, e) else (0, 0, (hiJ p q).1, (hiJ p q).2, d, n, e)) :=
  Ev.step (fun k => span_Join.j2.eq_2 ..) (ev_ite (fun _ => Ev.bind (min_ev hp.lo hq.lo) (sjoin_j3 hp hq _ _ _ _ _)) (fun _ => sjoin_j3 hp hq _ _ _ _ _))
theorem sjoin_j1 {p q : Sq} (kp : OkS p) (kq : OkS q) (n : Bool) : Ev (fun k => span_Join.j1 k n p.lo.1 p.lo.2 p.hi.1 p.hi.2 p.den p.no p.em q.lo.1 q.lo.2 q.hi.1 q.hi.2 q.den q.no q.em) (tupS (if q.em = true then { p with no := n } else ⟨loJ p q, hiJ p q, comm p.den q.den, n, false⟩)) := by
  have hp := okS_i64 kp
  have hq := okS_i64 kq
  refine Ev.step (fun k => span_Join.j1.eq_2 ..) ?_
  by_cases e : q.em = true
  · simp only [if_pos e]
    exact ev_const rfl
  · simp only [if_neg e]
    refine Ev.bind (comm_ev kp.d0 kp.d1 kq.d0 kq.d1) (Ev.bind (is_ev hp.lo) ?_)
    unfold loJ
    by_cases o1 : okQ p.lo = true
    · refine ev_pos o1 (Ev.bind (is_ev hq.lo) ?_)
      refine ev_eq (sjoin_j2 hp hq _ _ _ _) ?_
      simp only [if_pos o1]
      split <;> rfl
    · refine ev_neg o1 (ev_eq (sjoin_j2 hp hq false _ _ _) ?_)
      simp only [if_neg o1]
      rfl
theorem sjoin_v {a b : Sq} (ka : OkS a) (kb : OkS b) (n : Bool) (hn : n = (a.no || b.no)) : Ev (fun k => span_Join.j0 k n a.lo.1 a.lo.2 a.hi.1 a.hi.2 a.den a.no a.em b.lo.1 b.lo.2 b.hi.1 b.hi.2 b.den b.no b.em) (tupS (joinV a b)) := by
  subst hn
  refine Ev.step (fun k => span_Join.j0.eq_2 ..) ?_
  unfold joinV
  by_cases e : a.em = true
  · rw [if_pos e]
    refine ev_pos e (ev_eq (sjoin_j1 kb ka _) ?_)
    rw [if_pos e]
  · rw [if_neg e]
    refine ev_neg e (ev_eq (sjoin_j1 ka kb _) ?_)
    rfl
theorem sjoin_ev {a b : Sq} (ha : I64S a) (hb : I64S b) : Ev (fun k => span_Join.f k a.lo.1 a.lo.2 a.hi.1 a.hi.2 a.den a.no a.em b.lo.1 b.lo.2 b.hi.1 b.hi.2 b.den b.no b.em) (tupS (joinV (cleanS a) (cleanS b))) := by
  unfold span_Join.f
  refine Ev.bind (sclean_ev ha) (Ev.bind (sclean_ev hb) ?_)
  have ka := clean_okS a
  have kb := clean_okS b
  by_cases e : (cleanS a).no = true
  · exact ev_pos e (sjoin_v ka kb true (by rw [e]; rfl))
  · exact ev_neg e (sjoin_v ka kb _ (by rw [Bool.not_eq_true] at e; rw [e]; rfl))
def cutM (l h : Q) (d : Int) (n : Bool) : Sq := if okQ l = true ∧ okQ h = true ∧ cmpQ l h > 0 then ⟨(0, 0), (0, 0), 0, n, true⟩ else ⟨l, h, d, n, false⟩
theorem meet_j5 {l h : Q} (hl : I64Q l) (hh : I64Q h) (d : Int) (n : Bool) : Ev (fun k => span_Meet.j5 k n l.1 l.2 h.1 h.2 d n false) (tupS (cutM l h d n)) := by
  refine Ev.step (fun k => span_Meet.j5.eq_2 ..) (Ev.bind (is_ev hl) ?_)
  unfold cutM
  by_cases o1 : okQ l = true
  · refine ev_pos o1 (Ev.bind (is_ev hh) ?_)
    by_cases o2 : okQ h = true
    · refine ev_pos o2 (Ev.bind (cmp_ev hl hh) ?_)
      by_cases c : cmpQ l h > 0
      · rw [if_pos (show okQ l = true ∧ okQ h = true ∧ cmpQ l h > 0 from ⟨o1, o2, c⟩)]
        exact ev_pos c (ev_const rfl)
      · rw [if_neg (show ¬ (okQ l = true ∧ okQ h = true ∧ cmpQ l h > 0) from fun x => c x.2.2)]
        exact ev_neg c (ev_const rfl)
    · rw [if_neg (show ¬ (okQ l = true ∧ okQ h = true ∧ cmpQ l h > 0) from fun x => o2 x.2.1)]
      exact ev_neg o2 (ev_const rfl)
  · rw [if_neg (show ¬ (okQ l = true ∧ okQ h = true ∧ cmpQ l h > 0) from fun x => o1 x.1)]
    exact ev_neg o1 (ev_const rfl)
theorem meet_j4 {b : Sq} {l h : Q} (hb : I64S b) (hl : I64Q l) (hh : I64Q h) (c : Bool) (d : Int) (n : Bool) : Ev (fun k => span_Meet.j4 k n c b.lo.1 b.lo.2 b.hi.1 b.hi.2 b.den b.no b.em l.1 l.2 h.1 h.2 d n false) (tupS (cutM l (if c = true then b.hi else h) d n)) := by
  refine Ev.step (fun k => span_Meet.j4.eq_2 ..) ?_
  cases c with
  | true => exact ev_pos rfl (meet_j5 hl hb.hi d n)
  | false => exact ev_neg (by decide) (meet_j5 hl hh d n)
theorem meet_j3 {b : Sq} {l h : Q} (hb : I64S b) (hl : I64Q l) (hh : I64Q h) (d : Int) (n : Bool) : Ev (fun k => span_Meet.j3 k n b.lo.1 b.lo.2 b.hi.1 b.hi.2 b.den b.no b.em l.1 l.2 h.1 h.2 d n false) (tupS (cutM l (innerHi h b.hi) d n)) := by
  refine Ev.step (fun k => span_Meet.j3.eq_2 ..) (Ev.bind (is_ev hb.hi) ?_)
  unfold innerHi
  by_cases o1 : okQ b.hi = true
  · refine ev_pos o1 (Ev.bind (is_ev hh) ?_)
    rw [if_pos o1]
    by_cases o2 : okQ h = true
    · rw [if_pos o2]
      refine ev_pos o2 (Ev.bind (cmp_ev hb.hi hh) (ev_eq (meet_j4 hb hl hh _ d n) ?_))
      by_cases c : cmpQ b.hi h < 0 <;> simp [c]
    · rw [if_neg o2]
      exact ev_neg o2 (ev_eq (meet_j4 hb hl hh true d n) rfl)
  · rw [if_neg o1]
    exact ev_neg o1 (ev_eq (meet_j4 hb hl hh false d n) rfl)
theorem meet_j2 {b : Sq} {l h : Q} (hb : I64S b) (hl : I64Q l) (hh : I64Q h) (c : Bool) (d : Int) (n : Bool) : Ev (fun k => span_Meet.j2 k n c b.lo.1 b.lo.2 b.hi.1 b.hi.2 b.den b.no b.em l.1 l.2 h.1 h.2 d n false) (tupS (cutM (if c = true then b.lo else l) (innerHi h b.hi) d n)) := by
  refine Ev.step (fun k => span_Meet.j2.eq_2 ..) ?_
  cases c with
  | true => exact ev_pos rfl (meet_j3 hb hb.lo hh d n)
  | false => exact ev_neg (by decide) (meet_j3 hb hl hh d n)
theorem meet_j1 {a b : Sq} (ka : OkS a) (kb : OkS b) (c : Bool) (n : Bool) : Ev (fun k => span_Meet.j1 k n c a.lo.1 a.lo.2 a.hi.1 a.hi.2 a.den a.no a.em b.lo.1 b.lo.2 b.hi.1 b.hi.2 b.den b.no b.em) (tupS (if c = true then ⟨(0, 0), (0, 0), 0, n, true⟩ else cutM (innerLo a.lo b.lo) (innerHi a.hi b.hi) (Nat.gcd a.den.natAbs b.den.natAbs : Nat) n)) := by
  have ha := okS_i64 ka
  have hb := okS_i64 kb
  refine Ev.step (fun k => span_Meet.j1.eq_2 ..) ?_
  cases c with
  | true => exact ev_pos rfl (ev_const rfl)
  | false =>
    have hd : Ev (fun k => span_divisor.f k a.den b.den) ((Nat.gcd a.den.natAbs b.den.natAbs : Nat) : Int) := by
      have h := sdivisor_l0 b.den.natAbs a.den.natAbs
      rw [show ((a.den.natAbs : Nat) : Int) = a.den by have := ka.d0; omega, show ((b.den.natAbs : Nat) : Int) = b.den by have := kb.d0; omega] at h
      exact h
    refine ev_neg (by decide) (Ev.bind hd (Ev.bind (is_ev hb.lo) ?_))
    rw [if_neg (by decide)]
    unfold innerLo
    by_cases o1 : okQ b.lo = true
    · rw [if_pos o1]
      refine ev_pos o1 (Ev.bind (is_ev ha.lo) ?_)
      by_cases o2 : okQ a.lo = true
      · rw [if_pos o2]
        refine ev_pos o2 (Ev.bind (cmp_ev hb.lo ha.lo) (ev_eq (meet_j2 hb ha.lo ha.hi _ _ n) ?_))
        by_cases c : cmpQ b.lo a.lo > 0 <;> simp [c]
      · rw [if_neg o2]
        exact ev_neg o2 (ev_eq (meet_j2 hb ha.lo ha.hi true _ n) rfl)
    · rw [if_neg o1]
      exact ev_neg o1 (ev_eq (meet_j2 hb ha.lo ha.hi false _ n) rfl)
theorem meet_v {a b : Sq} (ka : OkS a) (kb : OkS b) (n : Bool) (hn : n = (a.no && b.no)) : Ev (fun k => span_Meet.j0 k n a.lo.1 a.lo.2 a.hi.1 a.hi.2 a.den a.no a.em b.lo.1 b.lo.2 b.hi.1 b.hi.2 b.den b.no b.em) (tupS (meetV a b)) := by
  subst hn
  refine Ev.step (fun k => span_Meet.j0.eq_2 ..) ?_
  by_cases e : a.em = true
  · have v : meetV a b = ⟨(0, 0), (0, 0), 0, a.no && b.no, true⟩ := by unfold meetV; rw [if_pos (.inl e)]
    rw [v]
    exact ev_pos e (ev_eq (meet_j1 ka kb true _) rfl)
  · refine ev_neg e (ev_eq (meet_j1 ka kb b.em _) ?_)
    congr 1
    unfold meetV
    by_cases e2 : b.em = true
    · rw [if_pos e2, if_pos (.inr e2)]
    · rw [if_neg e2, if_neg (show ¬ (a.em = true ∨ b.em = true) by simp [e, e2])]
      rfl
theorem smeet_ev {a b : Sq} (ha : I64S a) (hb : I64S b) : Ev (fun k => span_Meet.f k a.lo.1 a.lo.2 a.hi.1 a.hi.2 a.den a.no a.em b.lo.1 b.lo.2 b.hi.1 b.hi.2 b.den b.no b.em) (tupS (meetV (cleanS a) (cleanS b))) := by
  unfold span_Meet.f
  refine Ev.bind (sclean_ev ha) (Ev.bind (sclean_ev hb) ?_)
  by_cases e : (cleanS a).no = true
  · exact ev_pos e (meet_v (clean_okS a) (clean_okS b) _ (by rw [e]; rfl))
  · exact ev_neg e (meet_v (clean_okS a) (clean_okS b) _ (by rw [Bool.not_eq_true] at e; rw [e]; rfl))
theorem ne2 {a b : Q} : (!(a.1 == b.1) || (!(a.2 == b.2))) = true ↔ ¬ same2 a b = true := by
  unfold same2
  simp only [Bool.or_eq_true, Bool.not_eq_true', Bool.and_eq_true, beq_iff_eq, beq_eq_false_iff_ne]
  omega
theorem widen_j1 {a : Sq} {l h : Q} (d : Int) (n e : Bool) : Ev (fun k => span_Widen.j1 k a.lo.1 a.lo.2 a.hi.1 a.hi.2 a.den a.no a.em l.1 l.2 h.1 h.2 d n e) (tupS ⟨l, if same2 h a.hi = true then h else (0, 0), if d = a.den then d else 0, n, e⟩) := by
  refine Ev.step (fun k => span_Widen.j1.eq_2 ..) ?_
  by_cases c : same2 h a.hi = true
  · refine ev_neg (fun x => ne2.1 x c) ?_
    simp only [if_pos c]
    by_cases c2 : d = a.den
    · simp only [if_pos c2]; exact ev_const rfl
    · simp only [if_neg c2]; exact ev_const rfl
  · refine ev_pos (ne2.2 c) ?_
    simp only [if_neg c]
    by_cases c2 : d = a.den
    · simp only [if_pos c2]; exact ev_const rfl
    · simp only [if_neg c2]; exact ev_const rfl
theorem swiden_ev {a b : Sq} (ha : I64S a) (hb : I64S b) : Ev (fun k => span_Widen.f k a.lo.1 a.lo.2 a.hi.1 a.hi.2 a.den a.no a.em b.lo.1 b.lo.2 b.hi.1 b.hi.2 b.den b.no b.em) (tupS (widenV (cleanS a) (cleanS b))) := by
  unfold span_Widen.f
  have ka := clean_okS a
  have kb := clean_okS b
  have J := sjoin_ev (okS_i64 ka) (okS_i64 kb)
  rw [clean_self ka, clean_self kb] at J
  refine Ev.bind (sclean_ev ha) (Ev.bind (sclean_ev hb) (Ev.bind J ?_))
  generalize cleanS a = x at *
  generalize cleanS b = y at *
  unfold widenV
  by_cases e : x.em = true
  · rw [if_pos (show x.em = true ∨ y.em = true from .inl e)]
    exact ev_pos e (Ev.step (fun k => span_Widen.j0.eq_2 ..) (ev_pos rfl (ev_const rfl)))
  · refine ev_neg e (Ev.step (fun k => span_Widen.j0.eq_2 ..) ?_)
    by_cases e2 : y.em = true
    · rw [if_pos (show x.em = true ∨ y.em = true from .inr e2)]
      exact ev_pos e2 (ev_const rfl)
    · rw [if_neg (show ¬ (x.em = true ∨ y.em = true) by simp [e, e2])]
      refine ev_neg e2 ?_
      by_cases c : same2 (joinV x y).lo x.lo = true
      · simp only [if_pos c]
        exact ev_neg (fun z => ne2.1 z c) (widen_j1 (a := x) _ _ _)
      · simp only [if_neg c]
        exact ev_pos (ne2.2 c) (widen_j1 (a := x) (l := (0, 0)) _ _ _)
def wB2 (c : Bool) (a b : Sq) : Bool := if c = true then false else if b.den = 0 then true else if a.den = 0 then false else (Int.tmod b.den a.den == 0)
def wB1 (c : Bool) (a b : Sq) : Bool := if c = true then false else (if okQ b.hi = true then (if okQ a.hi = true then wB2 (decide (cmpQ a.hi b.hi > 0)) a b else wB2 true a b) else wB2 false a b)
def wB0 (c : Bool) (a b : Sq) : Bool := if c = true then false else if a.em = true then true else if b.em = true then false else (if okQ b.lo = true then (if okQ a.lo = true then wB1 (decide (cmpQ a.lo b.lo < 0)) a b else wB1 true a b) else wB1 false a b)
def withinB (a b : Sq) : Bool := if a.no = true then wB0 (!b.no) a b else wB0 false a b
theorem swith_j2 (c : Bool) (a b : Sq) : Ev (fun k => span_Within.j2 k c a.lo.1 a.lo.2 a.hi.1 a.hi.2 a.den a.no a.em b.lo.1 b.lo.2 b.hi.1 b.hi.2 b.den b.no b.em) (wB2 c a b) :=
  Ev.step (fun k => span_Within.j2.eq_2 ..) (ev_ite (fun _ => ev_const rfl) (fun _ => ev_ite (fun _ => ev_const rfl) (fun _ => ev_ite (fun _ => ev_const rfl) (fun _ => ev_const rfl))))
theorem swith_j1 {a b : Sq} (ha : I64S a) (hb : I64S b) (c : Bool) : Ev (fun k => span_Within.j1 k c a.lo.1 a.lo.2 a.hi.1 a.hi.2 a.den a.no a.em b.lo.1 b.lo.2 b.hi.1 b.hi.2 b.den b.no b.em) (wB1 c a b) := by
  unfold wB1
  exact Ev.step (fun k => span_Within.j1.eq_2 ..) (ev_ite (fun _ => ev_const rfl) (fun _ => Ev.bind (is_ev hb.hi) (ev_ite (fun _ => Ev.bind (is_ev ha.hi) (ev_ite (fun _ => Ev.bind (cmp_ev ha.hi hb.hi) (swith_j2 _ a b)) (fun _ => swith_j2 true a b))) (fun _ => swith_j2 false a b))))
theorem swith_j0 {a b : Sq} (ha : I64S a) (hb : I64S b) (c : Bool) : Ev (fun k => span_Within.j0 k c a.lo.1 a.lo.2 a.hi.1 a.hi.2 a.den a.no a.em b.lo.1 b.lo.2 b.hi.1 b.hi.2 b.den b.no b.em) (wB0 c a b) := by
  unfold wB0
  exact Ev.step (fun k => span_Within.j0.eq_2 ..) (ev_ite (fun _ => ev_const rfl) (fun _ => ev_ite (fun _ => ev_const rfl) (fun _ => ev_ite (fun _ => ev_const rfl) (fun _ => Ev.bind (is_ev hb.lo) (ev_ite (fun _ => Ev.bind (is_ev ha.lo) (ev_ite (fun _ => Ev.bind (cmp_ev ha.lo hb.lo) (swith_j1 ha hb _)) (fun _ => swith_j1 ha hb true))) (fun _ => swith_j1 ha hb false))))))
theorem swith_ev {a b : Sq} (ha : I64S a) (hb : I64S b) : Ev (fun k => span_Within.f k a.lo.1 a.lo.2 a.hi.1 a.hi.2 a.den a.no a.em b.lo.1 b.lo.2 b.hi.1 b.hi.2 b.den b.no b.em) (withinB (cleanS a) (cleanS b)) := by
  unfold span_Within.f withinB
  have ka := okS_i64 (clean_okS a)
  have kb := okS_i64 (clean_okS b)
  exact Ev.bind (sclean_ev ha) (Ev.bind (sclean_ev hb) (ev_ite (fun _ => swith_j0 ka kb _) (fun _ => swith_j0 ka kb _)))
theorem twith_j2 (c : Bool) (a b : Sq) : Ev (fun k => serinetteref03_Within.j2 k c a.lo.1 a.lo.2 a.hi.1 a.hi.2 a.den a.no a.em b.lo.1 b.lo.2 b.hi.1 b.hi.2 b.den b.no b.em) (wB2 c a b) :=
  Ev.step (fun k => serinetteref03_Within.j2.eq_2 ..) (ev_ite (fun _ => ev_const rfl) (fun _ => ev_ite (fun _ => ev_const rfl) (fun _ => ev_ite (fun _ => ev_const rfl) (fun _ => ev_const rfl))))
theorem twith_j1 {a b : Sq} (ha : I64S a) (hb : I64S b) (c : Bool) : Ev (fun k => serinetteref03_Within.j1 k c a.lo.1 a.lo.2 a.hi.1 a.hi.2 a.den a.no a.em b.lo.1 b.lo.2 b.hi.1 b.hi.2 b.den b.no b.em) (wB1 c a b) := by
  unfold wB1
  exact Ev.step (fun k => serinetteref03_Within.j1.eq_2 ..) (ev_ite (fun _ => ev_const rfl) (fun _ => Ev.bind (ris_ev hb.hi) (ev_ite (fun _ => Ev.bind (ris_ev ha.hi) (ev_ite (fun _ => Ev.bind (rcmp_ev ha.hi hb.hi) (twith_j2 _ a b)) (fun _ => twith_j2 true a b))) (fun _ => twith_j2 false a b))))
theorem twith_j0 {a b : Sq} (ha : I64S a) (hb : I64S b) (c : Bool) : Ev (fun k => serinetteref03_Within.j0 k c a.lo.1 a.lo.2 a.hi.1 a.hi.2 a.den a.no a.em b.lo.1 b.lo.2 b.hi.1 b.hi.2 b.den b.no b.em) (wB0 c a b) := by
  unfold wB0
  exact Ev.step (fun k => serinetteref03_Within.j0.eq_2 ..) (ev_ite (fun _ => ev_const rfl) (fun _ => ev_ite (fun _ => ev_const rfl) (fun _ => ev_ite (fun _ => ev_const rfl) (fun _ => Ev.bind (ris_ev hb.lo) (ev_ite (fun _ => Ev.bind (ris_ev ha.lo) (ev_ite (fun _ => Ev.bind (rcmp_ev ha.lo hb.lo) (twith_j1 ha hb _)) (fun _ => twith_j1 ha hb true))) (fun _ => twith_j1 ha hb false))))))
theorem twith_ev {a b : Sq} (ha : I64S a) (hb : I64S b) : Ev (fun k => serinetteref03_Within.f k a.lo.1 a.lo.2 a.hi.1 a.hi.2 a.den a.no a.em b.lo.1 b.lo.2 b.hi.1 b.hi.2 b.den b.no b.em) (withinB (cleanS a) (cleanS b)) := by
  unfold serinetteref03_Within.f withinB
  have ka := okS_i64 (clean_okS a)
  have kb := okS_i64 (clean_okS b)
  exact Ev.bind (tclean_ev ha) (Ev.bind (tclean_ev hb) (ev_ite (fun _ => twith_j0 ka kb _) (fun _ => twith_j0 ka kb _)))
theorem tcomm_ev {a b : Int} (ha : 0 ≤ a) (ha2 : a ≤ 1073741824) (hb : 0 ≤ b) (hb2 : b ≤ 1073741824) : Ev (fun k => serinetteref03_Common.f k a b) (comm a b) := by
  have no : ∀ x y : Int, Ev (fun k => serinetteref03_Common.j0 k x y true) 0 := fun x y => Ev.step (fun k => serinetteref03_Common.j0.eq_2 ..) (ev_pos rfl (ev_const rfl))
  unfold serinetteref03_Common.f comm
  by_cases h0 : a = 0
  · rw [if_pos (show a = 0 ∨ b = 0 from .inl h0)]; exact ev_pos h0 (no _ _)
  · refine ev_neg h0 ?_
    by_cases h1 : b = 0
    · rw [if_pos (show a = 0 ∨ b = 0 from .inr h1)]
      rw [show (b == 0) = true by simpa using h1]
      exact no _ _
    · rw [if_neg (show ¬ (a = 0 ∨ b = 0) by omega)]
      rw [show (b == 0) = false by simpa using h1]
      obtain ⟨m, rfl⟩ : ∃ m : Nat, a = m := ⟨a.toNat, by omega⟩
      obtain ⟨n, rfl⟩ : ∃ n : Nat, b = n := ⟨b.toNat, by omega⟩
      have hd := rdivisor_ev (a := (m : Int)) (b := (n : Int)) (by unfold I64; omega) (by unfold I64; omega) (by omega) (by omega)
      simp only [Int.natAbs_natCast] at hd ⊢
      refine Ev.step (fun k => serinetteref03_Common.j0.eq_2 ..) (ev_neg (by decide) (Ev.bind hd ?_))
      have hg : 0 < Nat.gcd m n := Nat.gcd_pos_of_pos_left _ (by omega)
      have e : Int.tdiv (m : Int) ((Nat.gcd m n : Nat) : Int) = (m : Int) / ((Nat.gcd m n : Nat) : Int) := Int.tdiv_eq_ediv_of_nonneg (by omega)
      have b1 : 0 ≤ (m : Int) / ((Nat.gcd m n : Nat) : Int) := Int.ediv_nonneg (by omega) (by omega)
      have b2 : (m : Int) / ((Nat.gcd m n : Nat) : Int) ≤ m := Int.ediv_le_self _ (by omega)
      rw [e, w64 (n := (m : Int) / ((Nat.gcd m n : Nat) : Int)) (by unfold I64; omega)]
      have b3 : (m : Int) / ((Nat.gcd m n : Nat) : Int) * n ≤ 1073741824 * 1073741824 := Int.mul_le_mul (by omega) hb2 (by omega) (by omega)
      have b4 : 0 ≤ (m : Int) / ((Nat.gcd m n : Nat) : Int) * n := Int.mul_nonneg b1 (by omega)
      rw [w64 (n := (m : Int) / ((Nat.gcd m n : Nat) : Int) * n) (by unfold I64; omega)]
      refine ev_neg (by omega) ?_
      by_cases c : (m : Int) / ((Nat.gcd m n : Nat) : Int) * n ≤ 1073741824
      · rw [if_pos c]; exact ev_neg (by omega) (ev_const rfl)
      · rw [if_neg c]; exact ev_pos (by omega) (ev_const rfl)
theorem tlower_ev {a b : Q} (ha : I64Q a) (hb : I64Q b) : Ev (fun k => serinetteref03_lower.f k a.1 a.2 b.1 b.2) (minQ a b) := by
  unfold serinetteref03_lower.f
  exact Ev.bind (rmin_ev ha hb) (ev_const rfl)
theorem tupper_ev {a b : Q} (ha : I64Q a) (hb : I64Q b) : Ev (fun k => serinetteref03_upper.f k a.1 a.2 b.1 b.2) (maxQ a b) := by
  unfold serinetteref03_upper.f
  exact Ev.bind (rmax_ev ha hb) (ev_const rfl)
theorem loJ_min (p q : Sq) : minQ p.lo q.lo = loJ p q := by
  unfold loJ minQ
  split <;> (try split) <;> rfl
theorem hiJ_max (p q : Sq) : maxQ p.hi q.hi = hiJ p q := by
  unfold hiJ maxQ
  split <;> (try split) <;> rfl
theorem tjoin_v {a b : Sq} (ka : OkS a) (kb : OkS b) (n : Bool) (hn : n = (a.no || b.no)) : Ev (fun k => serinetteref03_Join.j0 k n a.lo.1 a.lo.2 a.hi.1 a.hi.2 a.den a.no a.em b.lo.1 b.lo.2 b.hi.1 b.hi.2 b.den b.no b.em) (tupS (joinV a b)) := by
  subst hn
  refine Ev.step (fun k => serinetteref03_Join.j0.eq_2 ..) ?_
  have ha := okS_i64 ka
  have hb := okS_i64 kb
  unfold joinV
  by_cases e : a.em = true
  · rw [if_pos e]
    exact ev_pos e (ev_const rfl)
  · rw [if_neg e]
    refine ev_neg e ?_
    by_cases e2 : b.em = true
    · rw [if_pos e2]
      exact ev_pos e2 (ev_const rfl)
    · rw [if_neg e2]
      refine ev_neg e2 (Ev.bind (tlower_ev ha.lo hb.lo) (Ev.bind (tupper_ev ha.hi hb.hi) (Ev.bind (tcomm_ev ka.d0 ka.d1 kb.d0 kb.d1) (ev_const ?_))))
      have el := loJ_min a b
      have eh := hiJ_max a b
      unfold loJ at el
      unfold hiJ at eh
      rw [← el, ← eh]
theorem tjoin_ev {a b : Sq} (ha : I64S a) (hb : I64S b) : Ev (fun k => serinetteref03_Join.f k a.lo.1 a.lo.2 a.hi.1 a.hi.2 a.den a.no a.em b.lo.1 b.lo.2 b.hi.1 b.hi.2 b.den b.no b.em) (tupS (joinV (cleanS a) (cleanS b))) := by
  unfold serinetteref03_Join.f
  refine Ev.bind (tclean_ev ha) (Ev.bind (tclean_ev hb) ?_)
  have ka := clean_okS a
  have kb := clean_okS b
  by_cases e : (cleanS a).no = true
  · exact ev_pos e (tjoin_v ka kb true (by rw [e]; rfl))
  · exact ev_neg e (tjoin_v ka kb _ (by rw [Bool.not_eq_true] at e; rw [e]; rfl))
theorem tinner_ev {a b : Q} (ea : EndQ a) (eb : EndQ b) (g : Bool) : Ev (fun k => serinetteref03_inner.f k a.1 a.2 b.1 b.2 g) (if g = true then innerLo a b else innerHi a b) := by
  have ha := endQ_I64 ea
  have hb := endQ_I64 eb
  unfold serinetteref03_inner.f innerLo innerHi
  refine Ev.bind (ris_ev ha) ?_
  by_cases o1 : okQ a = true
  · refine ev_pos o1 (Ev.bind (ris_ev hb) ?_)
    by_cases o2 : okQ b = true
    · refine ev_pos o2 ?_
      simp only [if_pos o1, if_pos o2]
      refine ev_ite (fun _ => Ev.bind (rmax_ev ha hb) (ev_const ?_)) (fun _ => Ev.bind (rmin_ev ha hb) (ev_const ?_))
      · unfold maxQ; rw [if_pos o1, if_pos o2]
      · unfold minQ; rw [if_pos o1, if_pos o2]
    · refine ev_neg o2 (ev_const ?_)
      simp only [if_neg o2]
      split <;> rfl
  · refine ev_neg o1 (Ev.bind (rclean_ev hb) (ev_const ?_))
    simp only [if_neg o1]
    have ea2 : a = (0, 0) := ea.elim (fun h => absurd h o1) id
    unfold cleanQ
    subst ea2
    split <;> split <;> rfl
theorem tmeet_j1 {a b : Sq} (ka : OkS a) (kb : OkS b) (c n : Bool) : Ev (fun k => serinetteref03_Meet.j1 k n c a.lo.1 a.lo.2 a.hi.1 a.hi.2 a.den a.no a.em b.lo.1 b.lo.2 b.hi.1 b.hi.2 b.den b.no b.em) (tupS (if c = true then ⟨(0, 0), (0, 0), 0, n, true⟩ else cutM (innerLo a.lo b.lo) (innerHi a.hi b.hi) (Nat.gcd a.den.natAbs b.den.natAbs : Nat) n)) := by
  refine Ev.step (fun k => serinetteref03_Meet.j1.eq_2 ..) ?_
  have da := ka.d0
  have da1 := ka.d1
  have db := kb.d0
  have db1 := kb.d1
  cases c with
  | true => exact ev_pos rfl (ev_const rfl)
  | false =>
    rw [if_neg (by decide)]
    refine ev_neg (by decide) (Ev.bind (rdivisor_ev (by unfold I64; omega) (by unfold I64; omega) (by omega) (by omega)) (Ev.bind (tinner_ev ka.lo kb.lo true) (Ev.bind (tinner_ev ka.hi kb.hi false) ?_)))
    rw [if_pos rfl, if_neg (by decide)]
    have hl := endQ_I64 (innerLo_end ka.lo kb.lo)
    have hh := endQ_I64 (innerHi_end ka.hi kb.hi)
    refine Ev.bind (ris_ev hl) ?_
    by_cases o1 : okQ (innerLo a.lo b.lo) = true
    · refine ev_pos o1 (Ev.bind (ris_ev hh) ?_)
      by_cases o2 : okQ (innerHi a.hi b.hi) = true
      · refine ev_pos o2 (Ev.bind (rcmp_ev hl hh) ?_)
        by_cases o3 : cmpQ (innerLo a.lo b.lo) (innerHi a.hi b.hi) > 0
        · rw [show cutM (innerLo a.lo b.lo) (innerHi a.hi b.hi) (Nat.gcd a.den.natAbs b.den.natAbs : Nat) n = ⟨(0, 0), (0, 0), 0, n, true⟩ from if_pos ⟨o1, o2, o3⟩]; exact ev_pos o3 (ev_const rfl)
        · rw [show cutM (innerLo a.lo b.lo) (innerHi a.hi b.hi) (Nat.gcd a.den.natAbs b.den.natAbs : Nat) n = ⟨innerLo a.lo b.lo, innerHi a.hi b.hi, (Nat.gcd a.den.natAbs b.den.natAbs : Nat), n, false⟩ from if_neg (fun h => o3 h.2.2)]; exact ev_neg o3 (ev_const rfl)
      · rw [show cutM (innerLo a.lo b.lo) (innerHi a.hi b.hi) (Nat.gcd a.den.natAbs b.den.natAbs : Nat) n = ⟨innerLo a.lo b.lo, innerHi a.hi b.hi, (Nat.gcd a.den.natAbs b.den.natAbs : Nat), n, false⟩ from if_neg (fun h => o2 h.2.1)]; exact ev_neg o2 (ev_const rfl)
    · rw [show cutM (innerLo a.lo b.lo) (innerHi a.hi b.hi) (Nat.gcd a.den.natAbs b.den.natAbs : Nat) n = ⟨innerLo a.lo b.lo, innerHi a.hi b.hi, (Nat.gcd a.den.natAbs b.den.natAbs : Nat), n, false⟩ from if_neg (fun h => o1 h.1)]; exact ev_neg o1 (ev_const rfl)
theorem tmeet_v {a b : Sq} (ka : OkS a) (kb : OkS b) (n : Bool) (hn : n = (a.no && b.no)) : Ev (fun k => serinetteref03_Meet.j0 k n a.lo.1 a.lo.2 a.hi.1 a.hi.2 a.den a.no a.em b.lo.1 b.lo.2 b.hi.1 b.hi.2 b.den b.no b.em) (tupS (meetV a b)) := by
  subst hn
  refine Ev.step (fun k => serinetteref03_Meet.j0.eq_2 ..) ?_
  by_cases e : a.em = true
  · have v : meetV a b = ⟨(0, 0), (0, 0), 0, a.no && b.no, true⟩ := by unfold meetV; rw [if_pos (.inl e)]
    rw [v]
    exact ev_pos e (ev_eq (tmeet_j1 ka kb true _) rfl)
  · refine ev_neg e (ev_eq (tmeet_j1 ka kb b.em _) ?_)
    congr 1
    unfold meetV
    by_cases e2 : b.em = true
    · rw [if_pos e2, if_pos (.inr e2)]
    · rw [if_neg e2, if_neg (show ¬ (a.em = true ∨ b.em = true) by simp [e, e2])]
      rfl
theorem tmeet_ev {a b : Sq} (ha : I64S a) (hb : I64S b) : Ev (fun k => serinetteref03_Meet.f k a.lo.1 a.lo.2 a.hi.1 a.hi.2 a.den a.no a.em b.lo.1 b.lo.2 b.hi.1 b.hi.2 b.den b.no b.em) (tupS (meetV (cleanS a) (cleanS b))) := by
  unfold serinetteref03_Meet.f
  refine Ev.bind (tclean_ev ha) (Ev.bind (tclean_ev hb) ?_)
  by_cases e : (cleanS a).no = true
  · exact ev_pos e (tmeet_v (clean_okS a) (clean_okS b) _ (by rw [e]; rfl))
  · exact ev_neg e (tmeet_v (clean_okS a) (clean_okS b) _ (by rw [Bool.not_eq_true] at e; rw [e]; rfl))
theorem cmp_zero {a b : Q} (ha : EndQ a) (hb : EndQ b) : cmpQ a b = 0 ↔ same2 a b = true := by
  rw [same2_iff]
  rcases ha with ha | ha
  · rcases hb with hb | hb
    · unfold cmpQ sgn
      rw [if_pos ha, if_pos hb]
      constructor
      · intro h
        have e : a.1 * b.2 = b.1 * a.2 := by split at h <;> (try split at h) <;> omega
        exact Prod.ext (isQ_unique ha hb e).1 (isQ_unique ha hb e).2
      · rintro rfl; rw [if_neg (by omega), if_neg (by omega)]
    · subst hb
      unfold cmpQ
      rw [if_pos ha, if_neg end_none]
      exact ⟨fun h => by omega, fun h => absurd (h ▸ ha) end_none⟩
  · subst ha
    rcases hb with hb | hb
    · unfold cmpQ
      rw [if_neg end_none, if_pos hb]
      exact ⟨fun h => by omega, fun h => absurd (h ▸ hb) end_none⟩
    · subst hb
      unfold cmpQ
      rw [if_neg end_none, if_neg end_none]
      exact ⟨fun _ => rfl, fun _ => rfl⟩
theorem tnone_ev : serinetteref01_None.f = some (0, 0) := rfl
theorem twiden_j1 {a : Sq} (ka : OkS a) {l h : Q} (eh : EndQ h) (d : Int) (n e : Bool) : Ev (fun k => serinetteref03_Widen.j1 k a.lo.1 a.lo.2 a.hi.1 a.hi.2 a.den a.no a.em l.1 l.2 h.1 h.2 d n e) (tupS ⟨l, if same2 h a.hi = true then h else (0, 0), if d = a.den then d else 0, n, e⟩) := by
  refine Ev.step (fun k => serinetteref03_Widen.j1.eq_2 ..) (Ev.bind (rcmp_ev (endQ_I64 eh) (endQ_I64 ka.hi)) ?_)
  by_cases c : same2 h a.hi = true
  · refine ev_pos ((cmp_zero eh ka.hi).2 c) ?_
    simp only [if_pos c]
    by_cases c2 : d = a.den
    · simp only [if_pos c2]; exact ev_const rfl
    · simp only [if_neg c2]; exact ev_const rfl
  · refine ev_neg (fun z => c ((cmp_zero eh ka.hi).1 z)) (ev_bind tnone_ev ?_)
    simp only [if_neg c]
    by_cases c2 : d = a.den
    · simp only [if_pos c2]; exact ev_const rfl
    · simp only [if_neg c2]; exact ev_const rfl
theorem join_em {a b : Sq} (h : a.em ≠ true) : (joinV a b).em = false := by
  unfold joinV
  rw [if_neg h]
  split
  · simpa using h
  · rfl
theorem same2_self (a : Q) : same2 a a = true := same2_iff.2 rfl
theorem widen_full {a b : Sq} (h : a.em ≠ true) : widenV a b = { lo := if same2 (joinV a b).lo a.lo = true then (joinV a b).lo else (0, 0), hi := if same2 (joinV a b).hi a.hi = true then (joinV a b).hi else (0, 0), den := if (joinV a b).den = a.den then (joinV a b).den else 0, no := (joinV a b).no, em := (joinV a b).em } := by
  unfold widenV
  by_cases e : b.em = true
  · rw [if_pos (.inr e)]
    unfold joinV
    rw [if_neg h, if_pos e]
    simp [same2_self]
  · rw [if_neg (by simp [h, e])]
theorem twiden_ev {a b : Sq} (ha : I64S a) (hb : I64S b) : Ev (fun k => serinetteref03_Widen.f k a.lo.1 a.lo.2 a.hi.1 a.hi.2 a.den a.no a.em b.lo.1 b.lo.2 b.hi.1 b.hi.2 b.den b.no b.em) (tupS (widenV (cleanS a) (cleanS b))) := by
  unfold serinetteref03_Widen.f
  have ka := clean_okS a
  have kb := clean_okS b
  have J := tjoin_ev (okS_i64 ka) hb
  rw [clean_self ka] at J
  refine Ev.bind (tclean_ev ha) (Ev.bind J ?_)
  generalize cleanS a = x at *
  generalize cleanS b = y at *
  have kj := join_ok ka kb
  by_cases e : x.em = true
  · unfold widenV
    rw [if_pos (show x.em = true ∨ y.em = true from .inl e)]
    exact ev_pos e (Ev.step (fun k => serinetteref03_Widen.j0.eq_2 ..) (ev_pos rfl (ev_const rfl)))
  · refine ev_neg e (Ev.step (fun k => serinetteref03_Widen.j0.eq_2 ..) ?_)
    rw [widen_full e]
    have je := join_em (b := y) e
    refine ev_neg (by show ¬ (joinV x y).em = true; rw [je]; decide) (Ev.bind (rcmp_ev (endQ_I64 kj.lo) (endQ_I64 ka.lo)) ?_)
    by_cases c : same2 (joinV x y).lo x.lo = true
    · simp only [if_pos c]
      exact ev_pos ((cmp_zero kj.lo ka.lo).2 c) (twiden_j1 ka kj.hi _ _ _)
    · simp only [if_neg c]
      exact ev_neg (fun z => c ((cmp_zero kj.lo ka.lo).1 z)) (ev_bind tnone_ev (twiden_j1 ka (l := (0, 0)) kj.hi _ _ _))
def numB (n : Int) : ByteArray := ⟨(Lib.itoa n).toArray⟩
theorem fmt_is {n : Int} (h : I64 n) : strconv_FormatInt_33.f n 10 = some (numB n) := by
  unfold strconv_FormatInt_33.f
  exact (if_pos rfl).trans ((if_pos h).trans rfl)
theorem nd_le : ∀ (k u : Nat), u < 10 ^ k → 1 ≤ k → Lib.nDigits u ≤ k
  | 0, u, h, h1 => by omega
  | k + 1, u, h, h1 => by
    by_cases c : u < 10
    · rw [Lib.nDigits_small c]; omega
    · have hk : 1 ≤ k := by
        rcases Nat.eq_zero_or_pos k with e | e
        · subst e; omega
        · exact e
      rw [Lib.nDigits_big c]
      have := nd_le k (u / 10) (by rw [Nat.pow_succ] at h; omega) hk
      omega
theorem num_size {n : Int} (h : I64 n) : (numB n).size ≤ 20 := by
  unfold I64 at h
  have e : (numB n).size = (Lib.itoa n).length := by show (Lib.itoa n).toArray.size = _; simp
  rw [e]
  unfold Lib.itoa
  split
  · rw [List.length_cons, Lib.decDigits_length]
    have := nd_le 19 n.natAbs (by omega) (by omega)
    omega
  · rw [Lib.decDigits_length]
    have := nd_le 19 n.toNat (by omega) (by omega)
    omega
def textQ (q : Q) : ByteArray := if okQ q = true then (if q.2 = 1 then numB q.1 else (numB q.1 ++ (⟨#[47]⟩ : ByteArray)) ++ numB q.2) else ⟨#[110, 111, 110, 101]⟩
def openQ (q : Q) : ByteArray := if okQ q = true then textQ q else ⟨#[42]⟩
theorem one_size (x : UInt8) : (⟨#[x]⟩ : ByteArray).size = 1 := rfl
theorem text_size {q : Q} (h : I64Q q) : (textQ q).size ≤ 41 := by
  have h1 := num_size h.1
  have h2 := num_size h.2
  unfold textQ
  split
  · split
    · omega
    · rw [ByteArray.size_append, ByteArray.size_append, one_size]; omega
  · show 4 ≤ 41; omega
theorem open_size {q : Q} (h : I64Q q) : (openQ q).size ≤ 41 := by
  unfold openQ
  split
  · exact text_size h
  · rw [one_size]; omega
theorem stext_ev {q : Q} (h : I64Q q) : Ev (fun k => ratio_Text.f k q.1 q.2) (textQ q) := by
  unfold ratio_Text.f textQ
  have h1 := num_size h.1
  have h2 := num_size h.2
  refine Ev.bind (is_ev h) (ev_ite (fun _ => ev_ite (fun _ => ev_bind (fmt_is h.1) (ev_const rfl)) (fun _ => ev_bind (fmt_is h.1) (ev_pos (by omega) (ev_bind (fmt_is h.2) (ev_pos ?_ (ev_const rfl)))))) (fun _ => ev_const rfl))
  rw [ByteArray.size_append, one_size]; omega
theorem ttext_ev {q : Q} (h : I64Q q) : Ev (fun k => serinetteref01_Text.f k q.1 q.2) (textQ q) := by
  unfold serinetteref01_Text.f textQ
  have h1 := num_size h.1
  have h2 := num_size h.2
  refine Ev.bind (ris_ev h) (ev_ite (fun _ => ev_bind (fmt_is h.1) (ev_ite (fun _ => ev_const rfl) (fun _ => ev_pos (by omega) (ev_bind (fmt_is h.2) (ev_pos ?_ (ev_const rfl)))))) (fun _ => ev_const rfl))
  rw [ByteArray.size_append, one_size]; omega
theorem sopen_ev {q : Q} (h : I64Q q) : Ev (fun k => span_open.f k q.1 q.2) (openQ q) := by
  unfold span_open.f openQ
  exact Ev.bind (is_ev h) (ev_ite (fun _ => Ev.bind (stext_ev h) (ev_const rfl)) (fun _ => ev_const rfl))
theorem topen_ev {q : Q} (h : I64Q q) : Ev (fun k => serinetteref03_star.f k q.1 q.2) (openQ q) := by
  unfold serinetteref03_star.f openQ
  exact Ev.bind (ris_ev h) (ev_ite (fun _ => Ev.bind (ttext_ev h) (ev_const rfl)) (fun _ => ev_const rfl))
abbrev noneB : ByteArray := ⟨#[32, 110, 111, 110, 101]⟩
theorem none_size : noneB.size = 5 := rfl
def lineB (s : Sq) : ByteArray := (((((⟨#[91]⟩ : ByteArray) ++ openQ s.lo) ++ (⟨#[44]⟩ : ByteArray)) ++ openQ s.hi) ++ (⟨#[93, 47]⟩ : ByteArray)) ++ numB s.den
def textS (s : Sq) : ByteArray := if s.em = true then (if s.no = true then (⟨#[91, 93]⟩ : ByteArray) ++ noneB else ⟨#[91, 93]⟩) else (if s.no = true then lineB s ++ noneB else lineB s)
theorem app_nil (b : ByteArray) : b ++ (⟨#[]⟩ : ByteArray) = b := by
  apply ByteArray.ext
  rw [ByteArray.data_append]
  exact Array.append_empty
theorem two_size (x y : UInt8) : (⟨#[x, y]⟩ : ByteArray).size = 2 := rfl
theorem stext_j0 {s : Sq} (ks : OkS s) (x : ByteArray) (hx : x.size ≤ 5) : Ev (fun k => span_Text.j0 k x s.lo.1 s.lo.2 s.hi.1 s.hi.2 s.den s.no s.em) (if s.em = true then (⟨#[91, 93]⟩ : ByteArray) ++ x else lineB s ++ x) := by
  have hs := okS_i64 ks
  have o1 := open_size hs.lo
  have o2 := open_size hs.hi
  have o3 := num_size hs.d
  refine Ev.step (fun k => span_Text.j0.eq_2 ..) (ev_ite (fun _ => ev_pos (by omega) (ev_const rfl)) (fun _ => Ev.bind (sopen_ev hs.lo) (ev_pos (by omega) (ev_pos ?_ (Ev.bind (sopen_ev hs.hi) (ev_pos ?_ (ev_pos ?_ (ev_bind (fmt_is hs.d) (ev_pos ?_ (ev_pos ?_ (ev_const rfl)))))))))))
  all_goals (simp only [ByteArray.size_append, one_size, two_size]; omega)
theorem sText_ev {a : Sq} (ha : I64S a) : Ev (fun k => span_Text.f k a.lo.1 a.lo.2 a.hi.1 a.hi.2 a.den a.no a.em) (textS (cleanS a)) := by
  unfold span_Text.f textS
  refine Ev.bind (sclean_ev ha) ?_
  have ka := clean_okS a
  by_cases e : (cleanS a).no = true
  · rw [if_pos e, if_pos e]; exact ev_pos e (stext_j0 ka _ (by rw [none_size]; omega))
  · rw [if_neg e, if_neg e]
    refine ev_neg e (ev_eq (stext_j0 ka _ (by show 0 ≤ 5; omega)) ?_)
    rw [app_nil, app_nil]
theorem tText_ev {a : Sq} (ha : I64S a) : Ev (fun k => serinetteref03_Text.f k a.lo.1 a.lo.2 a.hi.1 a.hi.2 a.den a.no a.em) (textS (cleanS a)) := by
  unfold serinetteref03_Text.f textS
  have ka := clean_okS a
  have hs := okS_i64 ka
  have o1 := open_size hs.lo
  have o2 := open_size hs.hi
  have o3 := num_size hs.d
  refine Ev.bind (tclean_ev ha) (ev_ite (fun _ => ev_ite (fun _ => ev_pos (by omega) (ev_const rfl)) (fun _ => ev_const rfl)) (fun _ => Ev.bind (topen_ev hs.lo) (ev_pos (by omega) (ev_pos ?_ (Ev.bind (topen_ev hs.hi) (ev_pos ?_ (ev_pos ?_ (ev_bind (fmt_is hs.d) (ev_pos ?_ (ev_ite (fun _ => ev_pos ?_ (ev_const rfl)) (fun _ => ev_const rfl)))))))))))
  all_goals (simp only [ByteArray.size_append, one_size, two_size]; omega)
def pointS (q : Q) : Sq := if okQ q = true then ⟨q, q, q.2, false, false⟩ else ⟨(0, 0), (0, 0), 0, true, true⟩
theorem spoint_ev {q : Q} (h : I64Q q) : Ev (fun k => span_Point.f k q.1 q.2) (tupS (pointS q)) := by
  unfold span_Point.f
  refine Ev.bind (is_ev h) ?_
  by_cases o : okQ q = true
  · rw [show pointS q = ⟨q, q, q.2, false, false⟩ from if_pos o]; exact ev_pos o (ev_const rfl)
  · rw [show pointS q = ⟨(0, 0), (0, 0), 0, true, true⟩ from if_neg o]; exact ev_neg o (ev_const rfl)
theorem tpoint_ev {q : Q} (h : I64Q q) : Ev (fun k => serinetteref03_Point.f k q.1 q.2) (tupS (pointS q)) := by
  unfold serinetteref03_Point.f
  refine Ev.bind (ris_ev h) ?_
  by_cases o : okQ q = true
  · rw [show pointS q = ⟨q, q, q.2, false, false⟩ from if_pos o]; exact ev_pos o (ev_const rfl)
  · rw [show pointS q = ⟨(0, 0), (0, 0), 0, true, true⟩ from if_neg o]; exact ev_neg o (ev_const rfl)
theorem awake_ev : Ev (fun k => serinettelaw03_awake.f k) true :=
  Ev.of serinettelaw03_awake.mono (k := 60) (by decide +kernel)
theorem sameT (s : Sq) : (((tupS s).1 == (tupS s).1 && ((tupS s).2.1 == (tupS s).2.1)) && (((tupS s).2.2.1 == (tupS s).2.2.1 && ((tupS s).2.2.2.1 == (tupS s).2.2.2.1)) && ((tupS s).2.2.2.2.1 == (tupS s).2.2.2.2.1 && ((tupS s).2.2.2.2.2.1 == (tupS s).2.2.2.2.2.1 && ((tupS s).2.2.2.2.2.2 == (tupS s).2.2.2.2.2.2))))) = true := by simp
theorem law_j0 {a b : Sq} (ha : I64S a) (hb : I64S b) {q : Q} (hq : I64Q q) : Ev (fun k => serinettelaw03_SpanSays.j0 k false a.lo.1 a.lo.2 a.hi.1 a.hi.2 a.den a.no a.em b.lo.1 b.lo.2 b.hi.1 b.hi.2 b.den b.no b.em q.1 q.2) true := by
  refine Ev.step (fun k => serinettelaw03_SpanSays.j0.eq_2 ..) (ev_neg (by decide) ?_)
  refine Ev.bind (sjoin_ev ha hb) (Ev.bind (tjoin_ev ha hb) (ev_pos (sameT _) ?_))
  refine Ev.bind (smeet_ev ha hb) (Ev.bind (tmeet_ev ha hb) (ev_pos (sameT _) ?_))
  refine Ev.bind (swiden_ev ha hb) (Ev.bind (twiden_ev ha hb) (ev_pos (sameT _) ?_))
  refine Ev.bind (spoint_ev hq) (Ev.bind (tpoint_ev hq) (ev_pos (sameT _) ?_))
  exact ev_bind (show span_All.f = some (tupS allS) from rfl) (ev_bind (show serinetteref03_All.f = some (tupS allS) from rfl) (ev_pos (sameT _) (Ev.bind awake_ev (ev_const rfl))))
theorem pure {a b : Sq} (ha : I64S a) (hb : I64S b) {q : Q} (hq : I64Q q) : Ev (fun k => serinettelaw03_SpanSays.f k a.lo.1 a.lo.2 a.hi.1 a.hi.2 a.den a.no a.em b.lo.1 b.lo.2 b.hi.1 b.hi.2 b.den b.no b.em q.1 q.2) true := by
  unfold serinettelaw03_SpanSays.f
  refine Ev.bind (svalid_ev ha) (Ev.bind (tvalid_ev ha) (ev_neg (by simp) ?_))
  refine Ev.bind (shas_ev ha hq) (Ev.bind (thas_ev ha hq) (ev_neg (by simp) ?_))
  refine Ev.bind (swith_ev ha hb) (Ev.bind (twith_ev ha hb) (ev_neg (by simp) ?_))
  refine Ev.bind (sText_ev ha) (Ev.bind (tText_ev ha) ?_)
  rw [show ((textS (cleanS a)).toList != (textS (cleanS a)).toList) = false by simp]
  exact law_j0 ha hb hq
end Go.Proofs.YtlibjgmnookakaaGreatDoor.SSpanSays
namespace Go.Proofs.YtlibjgmnookakaaGreatDoor.Fit
open Go.ChangeShapes Go.WideShapes Go.Deep Go.Proofs.YtlibjgmnookakaaGreatDoor.Wd.PrintWords
structure Fit (P : Program) (t : TypeId) {α : Type} (k : Kd α) (good : α → Prop) : Prop where
  sz : P.cellsOf t = k.sz
  take : ∀ {H : Type} {enc : TypeId × Value → H} {w : World} {base : Nat} {spare : Nat → Bool} {held : Bool} {fuel : Nat} {cs : List Value} {x : DataW H × List MemPlace},
    DataW.trod enc P w base spare held fuel t cs = some x → (∀ n ∈ x.1.weights P t, n ≤ 140737488351232) → ∃ a, k.K w a cs ∧ good a
theorem Fit.int {P : Program} {t : TypeId} {k : IntKind} (ht : P.underlying t = some (.int k)) (hs : P.cellsOf t = 1) : Fit P t (Kd.int k) (fun n => (Lit.int k n).wf = true) :=
  ⟨hs, fun h _ => by
    obtain ⟨n, rfl, _, hw⟩ := DataW.trod_int ht h
    exact ⟨n, rfl, hw⟩⟩
theorem Fit.bool {P : Program} {t : TypeId} (ht : P.underlying t = some .bool) (hs : P.cellsOf t = 1) : Fit P t Kd.bool (fun _ => True) :=
  ⟨hs, fun h _ => by
    obtain ⟨n, rfl, _⟩ := DataW.trod_bool ht h
    exact ⟨n, rfl, trivial⟩⟩
theorem Fit.string {P : Program} {t : TypeId} (ht : P.underlying t = some .string) (hs : P.cellsOf t = 1) : Fit P t Kd.string (fun s => s.size ≤ 140737488351232) :=
  ⟨hs, fun h hw => by
    obtain ⟨s, rfl, rfl, _⟩ := DataW.trod_string ht h
    refine ⟨s, rfl, ?_⟩
    have := hw s.data.toList.length (by simp [DataW.weights])
    rw [Array.length_toList] at this
    exact this⟩
theorem Fit.iso {P : Program} {t : TypeId} {α β : Type} {k : Kd α} {good : α → Prop} (h : Fit P t k good) (f : β → α) (g : α → β) (hfg : ∀ a, f (g a) = a) : Fit P t (Kd.iso k f) (fun b => good (f b)) :=
  ⟨h.sz, fun ht hw => by
    obtain ⟨a, hk, hg⟩ := h.take ht hw
    refine ⟨g a, ?_, ?_⟩
    · show k.K _ (f (g a)) _
      rw [hfg]; exact hk
    · show good (f (g a))
      rw [hfg]; exact hg⟩
theorem weightsAll_mem {H : Type} {P : Program} {e : TypeId} : ∀ {ds : List (DataW H)} {d : DataW H}, d ∈ ds → ∀ n ∈ d.weights P e, n ∈ DataW.weightsAll P e ds
  | [], _, h, _, _ => by cases h
  | d0 :: ds, d, h, n, hn => by
    simp only [DataW.weightsAll, List.mem_append]
    rcases List.mem_cons.1 h with rfl | h
    · exact .inl hn
    · exact .inr (weightsAll_mem h n hn)
theorem Fit.slice {P : Program} {t e : TypeId} {α : Type} {k : Kd α} {good : α → Prop} {B : Nat} (ht : P.underlying t = some (.slice e)) (hs : P.cellsOf t = 1) (he : Fit P e k good) (hB : P.bytesOf e = B) :
    Fit P t (Kd.slice e k) (fun xs => xs.length * B ≤ 140737488351232 ∧ ∀ x ∈ xs, good x) :=
  ⟨hs, fun {H enc w base spare held fuel cs x} h hw => by
    rcases open_slice ht h with ⟨rfl, rfl⟩ | ⟨a, len, cap, m, n, D, Pl, rfl, hb, hl, hm, hmm, rfl, hi⟩
    · exact ⟨[], ⟨none, 0, rfl, Nat.le_refl _, Kd.C_nil _ _⟩, by simp, fun x hx => by cases hx⟩
    · have hlm : len ≤ m := by rw [hmm]; split <;> omega
      have hwt : ∀ n ∈ DataW.weights P t (.slice ((List.range len).map D) ((List.range (m - len)).map fun j => D (len + j))), n ≤ 140737488351232 := hw
      have hel : ∀ i, i < len → ∃ (p : α), ∃ c, w.cells? base (a.add (i * P.cellsOf e)) (P.cellsOf e) = some c ∧ k.K w p c ∧ good p := by
        intro i hlt
        obtain ⟨c, hc, hT⟩ := hi i (by omega)
        obtain ⟨p, hp, hg⟩ := he.take hT (by
          intro q hq
          refine hwt q ?_
          simp only [DataW.weights, ht, List.mem_cons, List.mem_append]
          exact .inr (.inl (weightsAll_mem (List.mem_map.2 ⟨i, List.mem_range.2 hlt, rfl⟩) q hq)))
        exact ⟨p, c, hc, hp, hg⟩
      have hch : ∃ xs : List α, xs.length = len ∧ ∀ (i : Nat) (p : α), xs[i]? = some p → ∃ c, w.cells? base (a.add (i * P.cellsOf e)) (P.cellsOf e) = some c ∧ k.K w p c ∧ good p := by
        clear hwt hw h hi hl hm hmm hlm
        induction len with
        | zero => exact ⟨[], rfl, fun i p hp => by simp at hp⟩
        | succ len ih =>
          obtain ⟨xs, hx, hxs⟩ := ih (fun i hi => hel i (Nat.lt_succ_of_lt hi))
          obtain ⟨p, hp⟩ := hel len (Nat.lt_succ_self _)
          refine ⟨xs ++ [p], by simp [hx], fun i q hq => ?_⟩
          by_cases hil : i < xs.length
          · rw [List.getElem?_append_left hil] at hq
            exact hxs i q hq
          · have hlt : i < (xs ++ [p]).length := (List.getElem?_eq_some_iff.1 hq).1
            simp at hlt
            obtain rfl : i = xs.length := by omega
            simp at hq
            subst hq
            rw [hx]
            exact hp
      obtain ⟨xs, hx, hxs⟩ := hch
      refine ⟨xs, ⟨some a, cap, by rw [hx], by rw [hx]; exact hl, ?_⟩, ?_, ?_⟩
      · refine ⟨rfl, by simp only [maxLen] at hm; omega, fun _ => ⟨a, rfl, fun j p hj => ?_⟩⟩
        obtain ⟨c, hc, hk, _⟩ := hxs j p hj
        have hck := k.K_len hk
        obtain ⟨_, hcl, hat⟩ := World.cells?_some hc
        refine ⟨c, hck, hk, fun i u hu => ?_⟩
        have hi' : i < c.length := (List.getElem?_eq_some_iff.1 hu).1
        have h1 := hat (i := i) (by rw [← he.sz] at hck; omega)
        rw [Deep.add_add] at h1
        rw [← he.sz, h1, hu]
      · have h1 : (len + (m - len)) * P.bytesOf e ≤ 140737488351232 := hwt _ (by simp [DataW.weights, ht])
        rw [hB] at h1
        rw [hx]
        exact Nat.le_trans (Nat.mul_le_mul_right _ (by omega)) h1
      · intro x hx'
        obtain ⟨i, hi', rfl⟩ := List.getElem_of_mem hx'
        obtain ⟨c, _, _, hg⟩ := hxs i _ (List.getElem?_eq_getElem hi')
        exact hg⟩
structure FitF (P : Program) (fs : List Field) (off : Nat) {α : Type} (k : Kd α) (good : α → Prop) : Prop where
  take : ∀ {H : Type} {enc : TypeId × Value → H} {w : World} {base : Nat} {spare : Nat → Bool} {held : Bool} {fuel : Nat} {cs : List Value} {xs : List (DataW H × List MemPlace)},
    xs.length = fs.length → (∀ (i : Nat) (f : Field), fs[i]? = some f → DataW.trod enc P w base spare held fuel f.type ((cs.drop f.offset).take (P.cellsOf f.type)) = xs[i]?) →
    cs.length = off + k.sz → (∀ n ∈ DataW.weightsEach P (fs.map (·.type)) (xs.map (·.1)), n ≤ 140737488351232) → ∃ a, k.K w a (cs.drop off) ∧ good a
theorem FitF.last {P : Program} {f : Field} {off : Nat} {α : Type} {k : Kd α} {good : α → Prop} (hf : Fit P f.type k good) (ho : f.offset = off) : FitF P [f] off k good :=
  ⟨fun {H enc w base spare held fuel cs xs} hl h hc hw => by
    match xs, hl with
    | [y], _ =>
      have h0 := h 0 f rfl
      rw [ho, hf.sz, List.take_of_length_le (by rw [List.length_drop]; omega)] at h0
      exact hf.take (x := y) h0 (fun n hn => hw n (by simp [DataW.weightsEach]; exact hn))⟩
theorem FitF.cons {P : Program} {f : Field} {fs : List Field} {off : Nat} {α β : Type} {k : Kd α} {k' : Kd β} {good : α → Prop} {good' : β → Prop} (hf : Fit P f.type k good) (ho : f.offset = off) (hfs : FitF P fs (off + k.sz) k' good') :
    FitF P (f :: fs) off (Kd.pair k k') (fun x => good x.1 ∧ good' x.2) :=
  ⟨fun {H enc w base spare held fuel cs xs} hl h hc hw => by
    match xs, hl with
    | y :: ys, hl =>
      have hc' : cs.length = off + (k.sz + k'.sz) := hc
      have h0 := h 0 f rfl
      rw [ho, hf.sz] at h0
      obtain ⟨a, ha, hga⟩ := hf.take (x := y) h0 (fun n hn => hw n (by simp only [List.map_cons, DataW.weightsEach, List.mem_append]; exact .inl hn))
      obtain ⟨b, hb, hgb⟩ := hfs.take (xs := ys) (by simpa using hl) (fun i g hg => by have := h (i + 1) g (by simpa using hg); simpa using this) (by omega)
        (fun n hn => hw n (by simp only [List.map_cons, DataW.weightsEach, List.mem_append]; exact .inr hn))
      refine ⟨(a, b), ⟨(cs.drop off).take k.sz, cs.drop (off + k.sz), ?_, ha, hb⟩, hga, hgb⟩
      rw [← List.drop_drop, List.take_append_drop]⟩
theorem Fit.struct {P : Program} {t : TypeId} {fs : Array Field} {α : Type} {k : Kd α} {good : α → Prop} (ht : P.underlying t = some (.struct fs)) (hs : P.cellsOf t = k.sz) (hf : FitF P fs.toList 0 k good) : Fit P t k good :=
  ⟨hs, fun {H enc w base spare held fuel cs x} h hw => by
    obtain ⟨xs, n, rfl, rfl, hc, hl, hg⟩ := DataW.trod_struct ht h
    have := hf.take (xs := xs) (by simpa using hl) (fun i f hi => hg i f (by simpa using hi)) (by rw [hc, hs]; omega) (fun q hq => hw q (by simpa [DataW.weights, ht] using hq))
    simpa using this⟩
theorem Fit.param {P : Program} {t : TypeId} {α : Type} {k : Kd α} {good : α → Prop} (hf : Fit P t k good) {H : Type} {enc : TypeId × Value → H} {w : World} {base : Nat} {spare : Nat → Bool} {held : Bool} {v : Value} {d : DataW H} {ps : List MemPlace}
    {ts : List TypeId} {ds : List (DataW H)} {j : Nat} (hsz : (DataW.weightsEach P ts ds).all (· ≤ reachBytes) = true) (hj : ts[j]? = some t) (hd : ds[j]? = some d) (h : DataW.Trod enc P w base spare held t v d ps) :
    ∃ a, k.K w a v.cells.toList ∧ good a := by
  obtain ⟨fuel, h⟩ := h
  refine hf.take h fun n hn => ?_
  have := List.all_eq_true.1 hsz _ (DataW.weights_mem_each hj hd n hn)
  exact of_decide_eq_true this
end Go.Proofs.YtlibjgmnookakaaGreatDoor.Fit
