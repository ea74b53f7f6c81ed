/- Parts of the proof of EventsMade, joined by program out of this session's own texts. -/
import Derived.Test.YtlaidcoickeihaaZB1
set_option linter.unusedVariables false
set_option linter.unusedSimpArgs false
namespace Go.Proofs.Ytlaidcoickeihaa.Nb
open Go.RowKit Go.Proofs.Ytlaidcoickeihaa.Wd.PrintWords Go.Proofs.Ytlaidcoickeihaa.Wd.PrintLast Go.Proofs.Ytlaidcoickeihaa.Wd.PrintMore Go.Proofs.Ytlaidcoickeihaa.Big
set_option synthInstance.maxSize 2000
set_option synthInstance.maxHeartbeats 400000
theorem NewR.zero (w w' : World) (hb : Below w.heap.size w w') : NewR w 0 (.returned (.slice none 0 0)) w' :=
  ⟨none, 0, by rw [dig_zero]; rfl, ⟨by rw [dig_zero]; exact ⟨rfl, by simp, fun h => by simp at h⟩, by rw [dig_zero]; exact Nat.le_refl _, fun ad h => by cases h⟩, hb⟩
set_option maxHeartbeats 4000000 in
set_option maxRecDepth 100000 in
theorem rparted_lt (w : World) (A0 A1 : Option Addr) (c0 c1 m n : Nat) (h0 : Wd w A0 (dig m)) (h1 : Wd w A1 (dig n)) (hlt : m < n) :
    Calls Try.prog 93 #[.slice A0 (dig m).length c0, .slice A1 (dig n).length c1] w (NewR w (m / n)) := by
  have H0 := Aside0.mk h0
  have H1 := Aside0.mk h1
  have HR := Aside0.mk (show sizeI (dig m) (dig n) = -1 by rw [sizeI_dig]; unfold cmpI; rw [if_pos (by omega)])
  rw [Nat.div_eq_of_lt hlt]
  clear h0 h1 hlt
  go_enter Try.func93, Try.ntmps93
  go_wp2_with (go_at_call 90; refine (rsize_is _ A0 A1 c0 c1 (dig m) (dig n) _ H0.out H1.out (dig_dg m) (dig_dg n) HR.out).mono ?_; rintro e w1 ⟨rfl, hb⟩; have HB := Aside0.mk hb; clear hb)
  exact bodyPost_ret (v := .slice none 0 0) (by simp [results, Try.results93]) rfl (NewR.zero w w1 HB.out)
theorem rtop_is (w : World) (A : Option Addr) (c : Nat) (l : List Int) (k : Nat) (z r : Int) (h : Wd w A l) (d : Dg l) (hz : z = k) (hr : l.getD k 0 = r) :
    Calls Try.prog 101 #[.slice A l.length c, .int .i64 z] w fun e w' => e = .returned (.int .u64 r) ∧ Below w.heap.size w w' := by
  subst hz
  exact (rtop_any w A c l k h d).mono fun e w' h => ⟨hr ▸ h.1, h.2.below⟩
structure Down (w : World) (g s j : Nat) (xs : List Int) (W : World) : Prop where
  own : Own W g xs
  below : Below w.heap.size w W
  base : w.heap.size ≤ g
  len : xs.length = s + 1
  dg : Dg xs
  zero : ∀ i, i < j → xs.getD i 0 = 0
theorem field_big (b : Bool) (A : Option Addr) (n c : Nat) (w : World) : (Instr.field 106 (.agg #[.bool b, .slice A n c]) 1).run Try.prog w = .ok (.slice A n c) w := by
  unfold Instr.field
  simp [run_underlying Try.underlying106, Value.cells, sizeOf, typeInfo, go_sem, asAgg]
theorem rtrim_one (w : World) (G : Int) (g : Nat) (hG : G = g) (hg : g < 4294967296) :
    Calls Try.prog 82 #[.slice (some ⟨w.heap.size, 0, none⟩) 1 1] (w.alloc (.cells #[.int .u32 G] 116)) fun e w' => e = .returned (.slice (some ⟨w.heap.size, 0, none⟩) (dig g).length 1) ∧ WN w' (fun k => w.heap.size ≤ k) (some ⟨w.heap.size, 0, none⟩) 1 g ∧ Below w.heap.size w w' := by
  have hd : Dg [G] := fun x hx => by simp at hx; omega
  have ho : Own (w.alloc (.cells #[.int .u32 G] 116)) w.heap.size [G] := Own.new w [G]
  have hw := ho.wd (by simp)
  have hv : (val [G]).toNat = g := by simp [val, hG]
  have := rtrimmed_any _ _ 1 [G] hw hd (Nat.le_refl _)
  rw [hv] at this
  refine this.mono ?_
  rintro e w' ⟨rfl, hdr⟩
  have hb := hdr.below
  have hn := wd_end hw hd hb (fun k => w.heap.size ≤ k) (Nat.le_refl _)
  rw [hv] at hn
  exact ⟨rfl, hn, below_step (below_alloc (Below.refl _ _) _) hb⟩
theorem rtimes_nat (w : World) (P Q : Nat → Prop) (A D : Option Addr) (c d a b : Nat) (h0 : WN w P A c a) (h1 : WN w Q D d b) (ha : (dig a).length ≤ 35184372088832) (hb : (dig b).length ≤ 35184372088832) :
    Calls Try.prog 78 #[.agg #[.bool false, .slice A (dig a).length c], .agg #[.bool false, .slice D (dig b).length d]] w fun e w' => ∃ E c', e = .returned (.agg #[.bool false, .slice E (dig (a * b)).length c']) ∧ WN w' (fun k => w.heap.size ≤ k) E c' (a * b) ∧ Below w.heap.size w w' := by
  have := rtimes_any w P Q _ _ (a : Int) (b : Int) h0.bi h1.bi (by simpa using ha) (by simpa using hb)
  refine this.mono ?_
  rintro e w' ⟨v, rfl, hv, hb⟩
  rw [← Int.natCast_mul] at hv
  obtain ⟨E, c', rfl, hE⟩ := hv.nat
  exact ⟨E, c', rfl, hE, hb⟩
theorem rapart_nat (w : World) (P Q : Nat → Prop) (A D : Option Addr) (c d a b r : Nat) (h0 : WN w P A c a) (h1 : WN w Q D d b) (ha : (dig a).length ≤ 70368744177000) (hle : b ≤ a) (hr : a - b = r) :
    Calls Try.prog 91 #[.slice A (dig a).length c, .slice D (dig b).length d] w fun e w' => ∃ (E : Option Addr) (c' : Nat), e = .returned (.slice E (dig r).length c') ∧ WN w' (fun k => w.heap.size ≤ k) E c' r ∧ Below w.heap.size w w' := by
  have := rapart_any w A D c d (dig a) (dig b) h0.wd h1.wd (dig_dg a) (dig_dg b) ha (dig_len_mono hle) (by rw [dig_val, dig_val]; omega)
  rw [dig_val, dig_val, show ((a : Int) - (b : Int)).toNat = r by omega] at this
  refine this.mono ?_
  intro e w' h
  obtain ⟨g, c', rfl, h1, h2⟩ := h.wn
  exact ⟨_, c', rfl, h1, h2⟩
theorem Down.lower {w W W' : World} {g s j : Nat} {xs : List Int} (h : Down w g s j xs W) (hb : Below W.heap.size W W') : Down w g s j xs W' := ⟨h.own.below hb, below_step h.below hb, h.base, h.len, h.dg, h.zero⟩
theorem Down.put {w W : World} {g s i : Nat} {xs : List Int} (h : Down w g s (i + 1) xs W) (hi : i ≤ s) (v : Int) (hv : 0 ≤ v ∧ v < 4294967296) : Down w g s i (xs.set i v) (W.setCell ⟨g, i, none⟩ (.int .u32 v)) ∧ val (xs.set i v) = val xs + 4294967296 ^ i * v := by
  refine ⟨⟨h.own.set i v, h.below.setCell h.base _, h.base, by rw [List.length_set]; exact h.len, dg_set h.dg i hv, fun k hk => ?_⟩, ?_⟩
  · rw [List.getD_eq_getElem?_getD, List.getElem?_set_ne (by omega), ← List.getD_eq_getElem?_getD]
    exact h.zero k (by omega)
  · rw [val_set _ _ (by rw [h.len]; omega), h.zero i (by omega)]; simp
theorem sizeI_le {P Q : Nat} (h : P ≤ Q) : sizeI (dig P) (dig Q) ≤ 0 := by
  rw [sizeI_dig]; unfold cmpI
  split
  · omega
  · rw [if_neg (by omega)]; omega
theorem Down.start (w : World) (s : Nat) : Down w w.heap.size s (s + 1) (List.replicate (s + 1) 0) (w.alloc (.cells (nums .u32 (List.replicate (s + 1) 0)).toArray 116)) :=
  ⟨Own.new w _, below_alloc (Below.refl _ _) _, Nat.le_refl _, by simp, dg_replicate _, fun i hi => by rw [List.getD_eq_getElem?_getD]; simp [hi]⟩
set_option maxHeartbeats 4000000 in
set_option maxRecDepth 100000 in
theorem rparted_ge (w : World) (A0 A1 : Option Addr) (c0 c1 m n : Nat) (h0 : Wd w A0 (dig m)) (h1 : Wd w A1 (dig n)) (hm : (dig m).length ≤ 8796093022208) (hn : 0 < n) (hle : n ≤ m) :
    Calls Try.prog 93 #[.slice A0 (dig m).length c0, .slice A1 (dig n).length c1] w (NewR w (m / n)) := by
  obtain ⟨t, ht⟩ : ∃ t, (dig n).length = t + 1 := ⟨(dig n).length - 1, by have := @dig_len_ne n (by omega); omega⟩
  obtain ⟨r0, hr0, hr1⟩ : ∃ r0, sizeI (dig m) (dig n) = r0 ∧ 0 ≤ r0 := ⟨_, rfl, by rw [sizeI_dig]; unfold cmpI; rw [if_neg (by omega)]; split <;> omega⟩
  obtain ⟨ad1, rfl, x1⟩ := wd_at h1 t (by omega)
  obtain ⟨d, hd⟩ : ∃ d, (dig n).getD t 0 = d := ⟨_, rfl⟩
  have hd1 : 1 ≤ d := hd ▸ dig_top_pos ht
  have hd2 : d < 4294967296 := hd ▸ (dg_get (dig_dg n) t).2
  rw [hd] at x1
  have X1 := Aside0.mk (fun (W : World) (hb : Below w.heap.size w W) => kc hb x1)
  have hidx : ((dig n).length : Int) - 1 = t := by omega
  have hlt : t < (dig n).length := by omega
  have htb : t < 9000000000000 := by have := dig_len_mono hle; omega
  have H0 := Aside0.mk h0
  have H1 := Aside0.mk h1
  have HM := Aside0.mk hm
  have HLE := Aside0.mk hle
  have HLN := Aside0.mk (dig_len_mono hle)
  have HN := Aside0.mk hn
  have HR := Aside0.mk hr0
  have HD1 := Aside0.mk hd1
  have HD2 := Aside0.mk hd2
  have HT := Aside0.mk ht
  have hr2 : decide (r0 < 0) = false := decide_eq_false (by omega)
  have hl0 : (0 : Int) < ((dig n).length : Int) := by omega
  clear h0 h1 hm hle hn hr0 hr1 hd ht hd1 hd2
  go_enter Try.func93, Try.ntmps93
  go_upto_region 3 with (go_at_call 90; refine (rsize_is _ A0 (some ad1) c0 c1 (dig m) (dig n) _ H0.out H1.out (dig_dg m) (dig_dg n) HR.out).mono ?_; rintro e w1 ⟨rfl, hb⟩; have HB1 := Aside0.mk hb; clear hb)
  have x1' := X1.out _ HB1.out
  go_upto_region 4 with (go_at_call 99; refine (rbits_any _ d HD1.out HD2.out).mono ?_; rintro e w2 ⟨k, rfl, hk, hk1, hk2, hdr⟩; have HK := Aside0.mk hk; have HB2 := Kn.mk (below_step HB1.out hdr.below); clear hdr hk hk1 hk2)
  obtain ⟨L, hL⟩ : ∃ L, 2 ^ k * n = L := ⟨_, rfl⟩
  obtain ⟨R, hRR⟩ : ∃ R, 2 ^ k * m = R := ⟨_, rfl⟩
  have SL : Aside0 (2 ^ k * (val (dig n)).toNat = L) := ⟨by rw [dig_val]; exact hL⟩
  have SR : Aside0 (2 ^ k * (val (dig m)).toNat = R) := ⟨by rw [dig_val]; exact hRR⟩
  have HL := Aside0.mk hL
  have HM7 := Aside0.mk (show (dig m).length ≤ 70368744177000 by have := HM.out; omega)
  have HN7 := Aside0.mk (show (dig n).length ≤ 70368744177000 by have := HLN.out; have := HM.out; omega)
  have HRR := Aside0.mk hRR
  clear hL hRR
  go_upto_region 6 with (first
    | (go_at_call 100; (with_reducible refine (rshifted_any _ (some ad1) c1 (dig n) k (wd_below H1.out HB2.out) (dig_dg n) HN7.out HK.out).mono ?_); intro e w3 hnew; rw [SL.out] at hnew; obtain ⟨gl, cl, rfl, hl, hb⟩ := hnew.wn; have XL := Aside0.mk hl; have HB3 := Kn.mk (below_step HB2.out hb); have HS3 := Aside0.mk hb.size; clear hl hb hnew)
    | (go_at_call 100; (with_reducible refine (rshifted_any _ A0 c0 (dig m) k (wd_below H0.out HB3.out) (dig_dg m) HM7.out HK.out).mono ?_); intro e w4 hnew; rw [SR.out] at hnew; obtain ⟨gr, cr, rfl, hl, hb⟩ := hnew.wn; have XR := Aside0.mk hl; have XL4 := Aside0.mk (XL.out.below hb); have HB4 := Kn.mk (below_step HB3.out hb); clear hl hb hnew))
  have HLP : Aside0 (0 < L) := ⟨by rw [← HL.out]; exact Nat.mul_pos (Nat.pow_pos (by decide)) HN.out⟩
  have HRL0 : Aside0 (L ≤ R) := ⟨by rw [← HL.out, ← HRR.out]; exact Nat.mul_le_mul_left _ HLE.out⟩
  obtain ⟨s, hs⟩ : ∃ s, (dig R).length = (dig L).length + s := ⟨(dig R).length - (dig L).length, by have := dig_len_mono HRL0.out; omega⟩
  have HSL : Aside0 ((dig R).length ≤ 8796093022300) := ⟨by
    have h1 := dig_mul_len (2 ^ k) m
    rw [HRR.out] at h1
    have h2 : (dig (2 ^ k)).length ≤ 1 := dig_len_le (Nat.lt_of_le_of_lt (Nat.pow_le_pow_right (by decide) HK.out) (by decide))
    have := HM.out
    omega⟩
  have hl1 : 1 ≤ (dig L).length := by have := @dig_len_ne L (by have := HLP.out; omega); omega
  have hsub : ((dig R).length : Int) - ((dig L).length : Int) = (s : Int) := by omega
  have hsl : s ≤ 8796093022300 := by have := HSL.out; omega
  have hmk := mk_words ((s : Int) + 1) (by omega) (by omega)
  have HS := Aside0.mk hs
  have HGL := Aside0.mk (XL4.out.ok _ rfl (by omega))
  have HGR := Aside0.mk (XR.out.ok _ rfl (by have := hs; omega))
  clear hs x1'
  have XL := Aside0.mk XL4.out.low
  have XR0 := Aside0.mk (XR.out.low.mono (fun k hk => (Nat.ne_of_lt hk.2 : k ≠ w4.heap.size)))
  clear HGL HGR HS3
  go_upto_region 9 with (fail)
  obtain ⟨p, hp⟩ : ∃ p, (dig L).length = p + 1 := ⟨(dig L).length - 1, by omega⟩
  have HP := Aside0.mk hp
  obtain ⟨ew, hew⟩ : ∃ e, (dig L).getD p 0 = e := ⟨_, rfl⟩
  obtain ⟨adl, hadl, xl⟩ := wd_at XL.out.wd p (by omega)
  cases hadl
  rw [hew, add_plain] at xl
  have XLW := Aside0.mk (fun (W : World) (hb : Below w4.heap.size w4 W) => kc hb xl)
  have HEW := Aside0.mk hew
  have hidl : ((dig L).length : Int) - 1 = (p : Int) := by omega
  have hpl : p < (dig L).length := by omega
  have hpb : p ≤ 9000000000000 := by have := HSL.out; have := HS.out; omega
  have hnb : (dig L).length ≤ 9000000000000 := by have := HSL.out; have := HS.out; omega
  have HSL2 : Aside0 ((dig R).length = (dig L).length + s) := HS
  clear hmk hsub HS hew xl hp
  go_loopw [7, 10] (fun v7 v10 W => ∃ (j Q : Nat) (A : Option Addr) (c : Nat) (xs : List Int), j ≤ s + 1 ∧ v10 = .int .i64 ((j : Int) - 1) ∧ v7 = .slice A (dig Q).length c ∧ Aside0 (WN W (fun k => k ≠ w4.heap.size) A c Q) ∧ Aside0 (Down w4 w4.heap.size s j xs W) ∧ Aside0 (Q < L * 4294967296 ^ j) ∧ Aside0 (val xs * (L : Int) + (Q : Int) = R) ∧ Aside0 ((dig Q).length ≤ 8796093022300)) (fun _ v10 _ => (intOf v10 + 1).toNat)
  case atStart => exact ⟨s + 1, R, _, _, _, Nat.le_refl _, by go_num, rfl, ⟨XR0.out.below (below_alloc (Below.refl _ _) _)⟩, ⟨Down.start w4 s⟩, ⟨by
    have h1 := start_bound (R := R) (L := L) (n := (dig L).length) (k := (dig L).length + s) (le_of_len (n := L) (by have := HLP.out; omega)) hl1 (by rw [← HSL2.out]; exact dig_lt R) (by omega)
    rwa [show (dig L).length + s - (dig L).length + 1 = s + 1 by omega] at h1⟩, ⟨by rw [val_replicate]; omega⟩, HSL⟩
  case round =>
    obtain ⟨j, Q, A, c, xs, hj, rfl, rfl, HQ, HD, HQL, HV, HQB⟩ := hrel
    cases j with
    | zero =>
      have hgl := HD.out.len
      have HGL := Aside0.mk hgl
      rw [← hgl]
      clear hgl
      go_wp2_with (go_at_call 82; (with_reducible refine (rtrimmed_any _ (some ⟨w4.heap.size, 0, none⟩) xs.length xs (HD.out.own.wd ?hl2) HD.out.dg (Nat.le_refl _)).mono ?_); (case hl2 => rw [HGL.out]; omega); rintro e w9 ⟨rfl, hdr⟩; have HDR := Aside0.mk hdr; clear hdr)
      have hv : (val xs).toNat = m / n := by
        have h1 := HV.out
        have h2 := HQL.out
        rw [Nat.pow_zero, Nat.mul_one] at h2
        have h3 := val_nonneg HD.out.dg
        obtain ⟨v, hv⟩ := Int.eq_ofNat_of_zero_le h3
        rw [hv] at h1 ⊢
        have h4 : v * L + Q = R := by exact_mod_cast h1
        have h5 : R / L = v := by
          rw [← h4, Nat.mul_comm, Nat.mul_add_div HLP.out, Nat.div_eq_of_lt h2]; rfl
        rw [Int.toNat_natCast, ← h5, ← HRR.out, ← HL.out, Nat.mul_div_mul_left _ _ (Nat.pow_pos (by decide))]
      have HWE := Aside0.mk (wd_end (HD.out.own.wd (by rw [HGL.out]; omega)) HD.out.dg HDR.out.below (fun k => w.heap.size ≤ k) HB4.out.size)
      have hwe := HWE.out
      rw [hv] at hwe
      refine bodyPost_ret (v := .slice (some ⟨w4.heap.size, 0, none⟩) (dig (val xs).toNat).length xs.length) (by simp [results, Try.results93]) rfl ⟨_, _, by rw [hv], hwe, ?_⟩
      exact below_step (below_step HB4.out HD.out.below) HDR.out.below
    | succ i =>
      rw [show ((i + 1 : Nat) : Int) - 1 = (i : Int) by omega]
      obtain ⟨t1, ht1⟩ : ∃ t1, (dig Q).getD (i + (dig L).length) 0 = t1 := ⟨_, rfl⟩
      obtain ⟨t2, ht2⟩ : ∃ t2, (dig Q).getD (i + (dig L).length - 1) 0 = t2 := ⟨_, rfl⟩
      obtain ⟨H, E, hH, hE, hE0, hE1, hH1, hq, hqB⟩ := guess_facts HP.out HQL.out ht1 ht2 HEW.out
      have b1 := dg_get (dig_dg Q) (i + (dig L).length)
      have b2 := dg_get (dig_dg Q) (i + (dig L).length - 1)
      rw [ht1] at b1
      rw [ht2] at b2
      have hor := or32 b1 b2
      rw [hH] at hor
      have HT1 := Aside0.mk ht1
      have HT2 := Aside0.mk ht2
      have z1 : Aside0 ((i : Int) + ((dig L).length : Int) = ((i + (dig L).length : Nat) : Int)) := ⟨by omega⟩
      have z2 : Aside0 ((i : Int) + ((dig L).length : Int) - 1 = ((i + (dig L).length - 1 : Nat) : Int)) := ⟨by omega⟩
      have HQQ := Aside0.mk hq
      have HQ1 := Aside0.mk hqB
      obtain ⟨b1a, b1b⟩ := b1
      obtain ⟨b2a, b2b⟩ := b2
      clear ht1 ht2 hH hq hqB
      subst hE
      go_upto_region 12 with (first
        | (go_at_call 101; (with_reducible refine (rtop_is _ A c (dig Q) (i + (dig L).length) ((i : Int) + ((dig L).length : Int)) t1 HQ.out.wd (dig_dg Q) z1.out HT1.out).mono ?_); rintro e w6 ⟨rfl, hb⟩; have HB6 := Aside0.mk hb; clear hb)
        | (go_at_call 101; (with_reducible refine (rtop_is _ A c (dig Q) (i + (dig L).length - 1) ((i : Int) + ((dig L).length : Int) - 1) t2 (wd_below HQ.out.wd HB6.out) (dig_dg Q) z2.out HT2.out).mono ?_); rintro e w7 ⟨rfl, hb⟩; have HB7 := Kn.mk (below_step HB6.out hb); clear hb))
      have HB47 := Kn.mk (below_step HD.out.below HB7.out)
      have xl7 := XLW.out w7 HB47.out
      clear hor
      have hE0' : (0 : Int) < (E : Int) := by omega
      have hEz : ((E : Int) == 0) = false := by rw [beq_eq_false_iff_ne]; omega
      have hH0' : (0 : Int) ≤ (H : Int) := by omega
      obtain ⟨G0, hG0⟩ : ∃ G0, H / E = G0 := ⟨_, rfl⟩
      have hG1 : G0 < 18446744073709551616 := by rw [← hG0]; exact Nat.lt_of_le_of_lt (Nat.div_le_self _ _) hH1
      have hwr : IntKind.u64.wrap ((H : Int) / (E : Int)) = (G0 : Int) := by
        rw [← Int.natCast_ediv, hG0]; exact IntWalk.u64_in _ (by omega)
      have HQ2 : Aside0 (Q / (L * 4294967296 ^ i) ≤ G0) := ⟨by rw [← hG0]; exact HQQ.out⟩
      clear HQQ hG0
      go_upto_region 13 with (fail)
      clear hwr hE0' hEz hH0' xl7 hE1 hE0 hH1 b1a b1b b2a b2b
      have HQ7 := Aside0.mk (HQ.out.below HB7.out)
      have HL7 := Aside0.mk (XL.out.below HB47.out)
      have HLB : Aside0 ((dig L).length ≤ 35184372088832) := ⟨by omega⟩
      have HSB : Aside0 (i + (dig L).length + 1 ≤ 35184372088832) := ⟨by omega⟩
      by_cases hg : 4294967295 < G0
      · obtain ⟨g, hgG⟩ : ∃ g : Nat, (4294967295 : Int) = (g : Int) := ⟨4294967295, rfl⟩
        have HgG := Aside0.mk hgG
        have Hgb : Aside0 (g < 4294967296) := ⟨by omega⟩
        have HgQ : Aside0 (Q / (L * 4294967296 ^ i) ≤ g) := ⟨by have := HQ1.out; omega⟩
        have hgd : decide (4294967295 < (G0 : Int)) = true := decide_eq_true (by omega)
        clear hgG hg hG1
        have hfld := field_big
        go_upto_region 17 with (first
          | (go_at_call 82; (with_reducible refine (rtrim_one w7 4294967295 g HgG.out Hgb.out).mono ?_); rintro e w8 ⟨rfl, hn8, hb8⟩; have HN8 := Aside0.mk hn8; have HB8 := Aside0.mk hb8; have HL8 := Aside0.mk (HL7.out.below hb8); clear hn8 hb8)
          | (go_at_call 78; (with_reducible refine (rtimes_nat w8 _ _ _ _ _ _ g L HN8.out HL8.out ?hla HLB.out).mono ?_); (case hla => exact Nat.le_trans (dig_len_le (k := 1) (by rw [Nat.pow_one]; exact Hgb.out)) (by decide)); rintro e w9 ⟨E9, c9, rfl, hn9, hb9⟩; have HN9 := Aside0.mk hn9; have HB9 := Kn.mk (below_step HB8.out hb9); clear hn9 hb9)
          | (go_at_call 102; (with_reducible refine (rraised_any w9 E9 c9 (g * L) i HN9.out.wd ?hra).mono ?_); (case hra => have h1 := dig_mul_len g L; have h2 := dig_len_le (n := g) (k := 1) (by rw [Nat.pow_one]; exact Hgb.out); have := HSB.out; omega); rintro e w10 ⟨E10, c10, rfl, hn10, hb10⟩; have HN10 := Aside0.mk hn10; have HB10 := Kn.mk (below_step HB9.out hb10); have HS10 := Aside0.mk hb10.size; have HS9 := Aside0.mk HB9.out.size; clear hn10 hb10))
        clear hfld
        go_loopw [12, 13] (fun v12 v13 W => ∃ (g' : Nat) (A' : Option Addr) (c' : Nat), v12 = .int .u64 (g' : Int) ∧ v13 = .slice A' (dig (g' * L * 4294967296 ^ i)).length c' ∧ g' ≤ 4294967295 ∧ Aside0 (Q / (L * 4294967296 ^ i) ≤ g') ∧ Aside0 (WN W (fun k => w4.heap.size < k) A' c' (g' * L * 4294967296 ^ i)) ∧ Kn (Below w7.heap.size w7 W)) (fun v12 _ _ => (intOf v12).toNat)
        case atStart => exact ⟨g, E10, c10, by rw [← HgG.out], rfl, by have := Hgb.out; omega, HgQ, ⟨HN10.out.mono fun k hk => by have h1 := HD.out.own.lt; have h2 := HB7.out.size; have := HS9.out; omega⟩, HB10⟩
        case round =>
          obtain ⟨g', A', c', rfl, rfl, hg'b, Hg'Q, HP', HBW⟩ := hrel
          have HLW := Aside0.mk (HL7.out.below HBW.out)
          have HQW := Aside0.mk (HQ7.out.below HBW.out)
          obtain ⟨P, hP⟩ : ∃ P, g' * L * 4294967296 ^ i = P := ⟨_, rfl⟩
          rw [hP] at HP' ⊢
          have HPE := Aside0.mk hP
          clear hP
          by_cases hPQ : P ≤ Q
          · obtain ⟨r1, hr1, hr1b⟩ : ∃ r1, sizeI (dig P) (dig Q) = r1 ∧ r1 ≤ 0 := ⟨_, rfl, sizeI_le hPQ⟩
            have HR1 := Aside0.mk hr1
            have hr1d : decide (0 < r1) = false := decide_eq_false (by omega)
            have HPQ := Aside0.mk hPQ
            have hgu : IntKind.u32.wrap (g' : Int) = (g' : Int) := IntWalk.u32_in _ (by omega)
            clear hr1 hPQ
            go_upto_region 21 with (first
              | (go_at_call 90; (with_reducible refine (rsize_is wr A' A c' c (dig P) (dig Q) _ HP'.out.wd HQW.out.wd (dig_dg P) (dig_dg Q) HR1.out).mono ?_); rintro e w11 ⟨rfl, hb⟩; have HB11 := Aside0.mk hb; have HP11 := Aside0.mk (HP'.out.below hb); have HQ11 := Aside0.mk (HQW.out.below hb); clear hb)
              | (go_at_call 91; (with_reducible refine (rapart_nat w11 _ _ A A' c c' Q P _ HQ11.out HP11.out ?ha HPQ.out rfl).mono ?_); (case ha => have := HQB.out; omega); rintro e w12 ⟨E12, c12, rfl, hn12, hb12⟩; have HN12 := Aside0.mk hn12; have HS12 := Aside0.mk HB11.out.size; have HB12 := Kn.mk (below_step HB11.out hb12); clear hn12 hb12))
            have hB7 := below_step HBW.out HB12.out
            have HD12 := Aside0.mk (HD.out.lower (below_step HB7.out hB7))
            have o12 := HD12.out.own.cell i (by rw [HD12.out.len]; omega)
            have f12 := HD12.out.own.frozen i
            have HB712 := Aside0.mk hB7
            clear hB7
            go_wp2
            go_roundw
            case rel =>
              obtain ⟨d1, d2⟩ := HD12.out.put (by omega) (g' : Int) (by omega)
              refine ⟨i, Q - P, E12, c12, xs.set i (g' : Int), by omega, by go_num, rfl, ⟨?_⟩, ⟨d1⟩, ⟨?_⟩, ⟨?_⟩, ⟨Nat.le_trans (dig_len_mono (Nat.sub_le _ _)) HQB.out⟩⟩
              · refine (HN12.out.mono (ok' := fun k => k ≠ w4.heap.size) (fun k hk => ?_)).set (p := ⟨w4.heap.size, i, none⟩) (by simp) _
                have h1 := HD.out.own.lt
                have h2 := HB7.out.size
                have h3 := HBW.out.size
                have h4 := HS12.out
                omega
              · rw [← HPE.out]; exact digit_is HLP.out Hg'Q.out (by rw [HPE.out]; exact HPQ.out)
              · rw [d2, ← HPE.out]; exact account HV.out (by rw [HPE.out]; exact HPQ.out)
            case measure => simp [intOf] <;> omega
          · have hr1 : sizeI (dig P) (dig Q) = 1 := by rw [sizeI_dig]; unfold cmpI; rw [if_neg (by omega), if_pos (by omega)]
            have HR1 := Aside0.mk hr1
            have hg1 : 1 ≤ g' := by
              rcases Nat.eq_zero_or_pos g' with h | h
              · have := HPE.out; rw [h, Nat.zero_mul, Nat.zero_mul] at this; omega
              · exact h
            have hg1i : (1 : Int) ≤ (g' : Int) := by omega
            have HPQ := Aside0.mk (show Q < P by omega)
            have HLI : Aside0 (L * 4294967296 ^ i ≤ P) := ⟨by rw [← HPE.out, Nat.mul_assoc]; exact Nat.le_mul_of_pos_left _ hg1⟩
            have HPL : Aside0 (P - L * 4294967296 ^ i = (g' - 1) * L * 4294967296 ^ i) := ⟨by rw [← HPE.out]; exact part_less hg1⟩
            have HPB : Aside0 ((dig P).length ≤ 70368744177000) := ⟨by
              have h1 := dig_mul_len (g' * L) (4294967296 ^ i)
              have h2 := dig_mul_len g' L
              have h3 := dig_len_le (n := g') (k := 1) (by rw [Nat.pow_one]; omega)
              have h4 := dig_len_le (n := 4294967296 ^ i) (k := i + 1) (Nat.pow_lt_pow_right (by decide) (Nat.lt_succ_self i))
              rw [HPE.out] at h1
              have := HSB.out
              omega⟩
            clear hr1 hPQ
            go_wp2_with (first
              | (go_at_call 90; (with_reducible refine (rsize_is wr A' A c' c (dig P) (dig Q) _ HP'.out.wd HQW.out.wd (dig_dg P) (dig_dg Q) HR1.out).mono ?_); rintro e w11 ⟨rfl, hb⟩; have HB11 := Aside0.mk hb; have HP11 := Aside0.mk (HP'.out.below hb); have HL11 := Aside0.mk (HLW.out.below hb); clear hb)
              | (go_at_call 102; (with_reducible refine (rraised_any w11 _ cl L i HL11.out.wd ?hra).mono ?_); (case hra => have := HSB.out; omega); rintro e w12 ⟨E12, c12, rfl, hn12, hb12⟩; have HN12 := Aside0.mk hn12; have HP12 := Aside0.mk (HP11.out.below hb12); have HB12 := Kn.mk (below_step HB11.out hb12); clear hn12 hb12)
              | (go_at_call 91; (with_reducible refine (rapart_nat w12 _ _ A' E12 c' c12 P (L * 4294967296 ^ i) _ HP12.out HN12.out HPB.out HLI.out HPL.out).mono ?_); rintro e w13 ⟨E13, c13, rfl, hn13, hb13⟩; have HN13 := Aside0.mk hn13; have HS13 := Aside0.mk HB12.out.size; have HB13 := Kn.mk (below_step HB12.out hb13); clear hn13 hb13))
            go_roundw
            case rel =>
              refine ⟨g' - 1, E13, c13, by go_num, rfl, by omega, ⟨?_⟩, ⟨HN13.out.mono fun k hk => ?_⟩, ⟨below_step HBW.out HB13.out⟩⟩
              · have h1 : 0 < L * 4294967296 ^ i := Nat.mul_pos HLP.out (Nat.pow_pos (by decide))
                have h2 : Q / (L * 4294967296 ^ i) < g' := by
                  rw [Nat.div_lt_iff_lt_mul h1, ← Nat.mul_assoc, HPE.out]; exact HPQ.out
                omega
              · have h1 := HD.out.own.lt
                have h2 := HB7.out.size
                have h3 := HBW.out.size
                have h4 := HS13.out
                omega
            case measure => simp [intOf] <;> omega
      · obtain ⟨g, hgG⟩ : ∃ g : Nat, (G0 : Int) = (g : Int) := ⟨G0, rfl⟩
        have HgG := Aside0.mk hgG
        have Hgb : Aside0 (g < 4294967296) := ⟨by omega⟩
        have HgQ : Aside0 (Q / (L * 4294967296 ^ i) ≤ g) := ⟨by have := HQ2.out; omega⟩
        have hgd : decide (4294967295 < (G0 : Int)) = false := decide_eq_false (by omega)
        have hgu0 : IntKind.u32.wrap (G0 : Int) = (G0 : Int) := IntWalk.u32_in _ (by omega)
        clear hgG hg hG1
        have hfld := field_big
        go_upto_region 17 with (first
          | (go_at_call 82; (with_reducible refine (rtrim_one w7 (G0 : Int) g HgG.out Hgb.out).mono ?_); rintro e w8 ⟨rfl, hn8, hb8⟩; have HN8 := Aside0.mk hn8; have HB8 := Aside0.mk hb8; have HL8 := Aside0.mk (HL7.out.below hb8); clear hn8 hb8)
          | (go_at_call 78; (with_reducible refine (rtimes_nat w8 _ _ _ _ _ _ g L HN8.out HL8.out ?hla HLB.out).mono ?_); (case hla => exact Nat.le_trans (dig_len_le (k := 1) (by rw [Nat.pow_one]; exact Hgb.out)) (by decide)); rintro e w9 ⟨E9, c9, rfl, hn9, hb9⟩; have HN9 := Aside0.mk hn9; have HB9 := Kn.mk (below_step HB8.out hb9); clear hn9 hb9)
          | (go_at_call 102; (with_reducible refine (rraised_any w9 E9 c9 (g * L) i HN9.out.wd ?hra).mono ?_); (case hra => have h1 := dig_mul_len g L; have h2 := dig_len_le (n := g) (k := 1) (by rw [Nat.pow_one]; exact Hgb.out); have := HSB.out; omega); rintro e w10 ⟨E10, c10, rfl, hn10, hb10⟩; have HN10 := Aside0.mk hn10; have HB10 := Kn.mk (below_step HB9.out hb10); have HS10 := Aside0.mk hb10.size; have HS9 := Aside0.mk HB9.out.size; clear hn10 hb10))
        clear hfld
        go_loopw [12, 13] (fun v12 v13 W => ∃ (g' : Nat) (A' : Option Addr) (c' : Nat), v12 = .int .u64 (g' : Int) ∧ v13 = .slice A' (dig (g' * L * 4294967296 ^ i)).length c' ∧ g' ≤ 4294967295 ∧ Aside0 (Q / (L * 4294967296 ^ i) ≤ g') ∧ Aside0 (WN W (fun k => w4.heap.size < k) A' c' (g' * L * 4294967296 ^ i)) ∧ Kn (Below w7.heap.size w7 W)) (fun v12 _ _ => (intOf v12).toNat)
        case atStart => exact ⟨g, E10, c10, by rw [← HgG.out], rfl, by have := Hgb.out; omega, HgQ, ⟨HN10.out.mono fun k hk => by have h1 := HD.out.own.lt; have h2 := HB7.out.size; have := HS9.out; omega⟩, HB10⟩
        case round =>
          obtain ⟨g', A', c', rfl, rfl, hg'b, Hg'Q, HP', HBW⟩ := hrel
          have HLW := Aside0.mk (HL7.out.below HBW.out)
          have HQW := Aside0.mk (HQ7.out.below HBW.out)
          obtain ⟨P, hP⟩ : ∃ P, g' * L * 4294967296 ^ i = P := ⟨_, rfl⟩
          rw [hP] at HP' ⊢
          have HPE := Aside0.mk hP
          clear hP
          by_cases hPQ : P ≤ Q
          · obtain ⟨r1, hr1, hr1b⟩ : ∃ r1, sizeI (dig P) (dig Q) = r1 ∧ r1 ≤ 0 := ⟨_, rfl, sizeI_le hPQ⟩
            have HR1 := Aside0.mk hr1
            have hr1d : decide (0 < r1) = false := decide_eq_false (by omega)
            have HPQ := Aside0.mk hPQ
            have hgu : IntKind.u32.wrap (g' : Int) = (g' : Int) := IntWalk.u32_in _ (by omega)
            clear hr1 hPQ
            go_upto_region 21 with (first
              | (go_at_call 90; (with_reducible refine (rsize_is wr A' A c' c (dig P) (dig Q) _ HP'.out.wd HQW.out.wd (dig_dg P) (dig_dg Q) HR1.out).mono ?_); rintro e w11 ⟨rfl, hb⟩; have HB11 := Aside0.mk hb; have HP11 := Aside0.mk (HP'.out.below hb); have HQ11 := Aside0.mk (HQW.out.below hb); clear hb)
              | (go_at_call 91; (with_reducible refine (rapart_nat w11 _ _ A A' c c' Q P _ HQ11.out HP11.out ?ha HPQ.out rfl).mono ?_); (case ha => have := HQB.out; omega); rintro e w12 ⟨E12, c12, rfl, hn12, hb12⟩; have HN12 := Aside0.mk hn12; have HS12 := Aside0.mk HB11.out.size; have HB12 := Kn.mk (below_step HB11.out hb12); clear hn12 hb12))
            have hB7 := below_step HBW.out HB12.out
            have HD12 := Aside0.mk (HD.out.lower (below_step HB7.out hB7))
            have o12 := HD12.out.own.cell i (by rw [HD12.out.len]; omega)
            have f12 := HD12.out.own.frozen i
            have HB712 := Aside0.mk hB7
            clear hB7
            go_wp2
            go_roundw
            case rel =>
              obtain ⟨d1, d2⟩ := HD12.out.put (by omega) (g' : Int) (by omega)
              refine ⟨i, Q - P, E12, c12, xs.set i (g' : Int), by omega, by go_num, rfl, ⟨?_⟩, ⟨d1⟩, ⟨?_⟩, ⟨?_⟩, ⟨Nat.le_trans (dig_len_mono (Nat.sub_le _ _)) HQB.out⟩⟩
              · refine (HN12.out.mono (ok' := fun k => k ≠ w4.heap.size) (fun k hk => ?_)).set (p := ⟨w4.heap.size, i, none⟩) (by simp) _
                have h1 := HD.out.own.lt
                have h2 := HB7.out.size
                have h3 := HBW.out.size
                have h4 := HS12.out
                omega
              · rw [← HPE.out]; exact digit_is HLP.out Hg'Q.out (by rw [HPE.out]; exact HPQ.out)
              · rw [d2, ← HPE.out]; exact account HV.out (by rw [HPE.out]; exact HPQ.out)
            case measure => simp [intOf] <;> omega
          · have hr1 : sizeI (dig P) (dig Q) = 1 := by rw [sizeI_dig]; unfold cmpI; rw [if_neg (by omega), if_pos (by omega)]
            have HR1 := Aside0.mk hr1
            have hg1 : 1 ≤ g' := by
              rcases Nat.eq_zero_or_pos g' with h | h
              · have := HPE.out; rw [h, Nat.zero_mul, Nat.zero_mul] at this; omega
              · exact h
            have hg1i : (1 : Int) ≤ (g' : Int) := by omega
            have HPQ := Aside0.mk (show Q < P by omega)
            have HLI : Aside0 (L * 4294967296 ^ i ≤ P) := ⟨by rw [← HPE.out, Nat.mul_assoc]; exact Nat.le_mul_of_pos_left _ hg1⟩
            have HPL : Aside0 (P - L * 4294967296 ^ i = (g' - 1) * L * 4294967296 ^ i) := ⟨by rw [← HPE.out]; exact part_less hg1⟩
            have HPB : Aside0 ((dig P).length ≤ 70368744177000) := ⟨by
              have h1 := dig_mul_len (g' * L) (4294967296 ^ i)
              have h2 := dig_mul_len g' L
              have h3 := dig_len_le (n := g') (k := 1) (by rw [Nat.pow_one]; omega)
              have h4 := dig_len_le (n := 4294967296 ^ i) (k := i + 1) (Nat.pow_lt_pow_right (by decide) (Nat.lt_succ_self i))
              rw [HPE.out] at h1
              have := HSB.out
              omega⟩
            clear hr1 hPQ
            go_wp2_with (first
              | (go_at_call 90; (with_reducible refine (rsize_is wr A' A c' c (dig P) (dig Q) _ HP'.out.wd HQW.out.wd (dig_dg P) (dig_dg Q) HR1.out).mono ?_); rintro e w11 ⟨rfl, hb⟩; have HB11 := Aside0.mk hb; have HP11 := Aside0.mk (HP'.out.below hb); have HL11 := Aside0.mk (HLW.out.below hb); clear hb)
              | (go_at_call 102; (with_reducible refine (rraised_any w11 _ cl L i HL11.out.wd ?hra).mono ?_); (case hra => have := HSB.out; omega); rintro e w12 ⟨E12, c12, rfl, hn12, hb12⟩; have HN12 := Aside0.mk hn12; have HP12 := Aside0.mk (HP11.out.below hb12); have HB12 := Kn.mk (below_step HB11.out hb12); clear hn12 hb12)
              | (go_at_call 91; (with_reducible refine (rapart_nat w12 _ _ A' E12 c' c12 P (L * 4294967296 ^ i) _ HP12.out HN12.out HPB.out HLI.out HPL.out).mono ?_); rintro e w13 ⟨E13, c13, rfl, hn13, hb13⟩; have HN13 := Aside0.mk hn13; have HS13 := Aside0.mk HB12.out.size; have HB13 := Kn.mk (below_step HB12.out hb13); clear hn13 hb13))
            go_roundw
            case rel =>
              refine ⟨g' - 1, E13, c13, by go_num, rfl, by omega, ⟨?_⟩, ⟨HN13.out.mono fun k hk => ?_⟩, ⟨below_step HBW.out HB13.out⟩⟩
              · have h1 : 0 < L * 4294967296 ^ i := Nat.mul_pos HLP.out (Nat.pow_pos (by decide))
                have h2 : Q / (L * 4294967296 ^ i) < g' := by
                  rw [Nat.div_lt_iff_lt_mul h1, ← Nat.mul_assoc, HPE.out]; exact HPQ.out
                omega
              · have h1 := HD.out.own.lt
                have h2 := HB7.out.size
                have h3 := HBW.out.size
                have h4 := HS13.out
                omega
            case measure => simp [intOf] <;> omega
end Go.Proofs.Ytlaidcoickeihaa.Nb
namespace Go.Proofs.Ytlaidcoickeihaa.Nb
open Go.RowKit Go.Proofs.Ytlaidcoickeihaa.Wd.PrintWords Go.Proofs.Ytlaidcoickeihaa.Wd.PrintLast Go.Proofs.Ytlaidcoickeihaa.Wd.PrintMore Go.Proofs.Ytlaidcoickeihaa.Big
set_option synthInstance.maxSize 2000
set_option synthInstance.maxHeartbeats 400000
theorem rparted_any (w : World) (A0 A1 : Option Addr) (c0 c1 m n : Nat) (h0 : Wd w A0 (dig m)) (h1 : Wd w A1 (dig n)) (hm : (dig m).length ≤ 8796093022208) (hn : 0 < n) :
    Calls Try.prog 93 #[.slice A0 (dig m).length c0, .slice A1 (dig n).length c1] w (NewR w (m / n)) := by
  by_cases h : m < n
  · exact rparted_lt w A0 A1 c0 c1 m n h0 h1 h
  · exact rparted_ge w A0 A1 c0 c1 m n h0 h1 hm hn (by omega)
theorem four_box (w : World) (a0 a1 b0 b1 c0 c1 d0 d1 : Value) (T : TypeId) : ∃ W, W = (((w.alloc (.cells #[a0, a1] T)).alloc (.cells #[b0, b1] T)).alloc (.cells #[c0, c1] T)).alloc (.cells #[d0, d1] T) ∧
    W.cell? ⟨w.heap.size, 0, none⟩ = some a0 ∧ W.cell? ⟨w.heap.size, 1, none⟩ = some a1 ∧ W.cell? ⟨w.heap.size + 1, 0, none⟩ = some b0 ∧ W.cell? ⟨w.heap.size + 1, 1, none⟩ = some b1 ∧
    W.cell? ⟨w.heap.size + 1 + 1, 0, none⟩ = some c0 ∧ W.cell? ⟨w.heap.size + 1 + 1, 1, none⟩ = some c1 ∧ W.cell? ⟨w.heap.size + 1 + 1 + 1, 0, none⟩ = some d0 ∧ W.cell? ⟨w.heap.size + 1 + 1 + 1, 1, none⟩ = some d1 ∧
    (∀ i, W.frozen? ⟨w.heap.size + 1 + 1, i, none⟩ = false) ∧ (∀ i, W.frozen? ⟨w.heap.size + 1 + 1 + 1, i, none⟩ = false) ∧ W.heap.size = w.heap.size + 1 + 1 + 1 + 1 ∧ Below w.heap.size w W :=
  ⟨_, rfl, c_low' (c_low' (c_low' (c_new rfl rfl))), c_low' (c_low' (c_low' (c_new rfl rfl))), c_low' (c_low' (c_new (by simp) rfl)), c_low' (c_low' (c_new (by simp) rfl)), c_low' (c_new (by simp) rfl), c_low' (c_new (by simp) rfl), c_new (by simp) rfl, c_new (by simp) rfl,
    fun i => f_low (by simp) (f_new (by simp)), fun i => f_new (by simp), by simp, below_alloc (below_alloc (below_alloc (below_alloc (Below.refl _ _) _) _) _) _⟩
theorem quo_small {u t : Bool} {m n : Nat} {z y : Int} (hz : z = sg u (m / n)) (hy : y = z * sg t n) (hm : (dig m).length ≤ 8796093022208) : (dig y.natAbs).length ≤ 35184372088832 := by
  rw [hy, hz, Int.natAbs_mul, sg_abs, sg_abs]
  have := dig_len_mono (Nat.div_mul_le_self m n)
  omega
theorem way_a (w2 : World) (a b : Value) (T : TypeId) : ∃ W3 g, w2.alloc (.cells #[a, b] T) = W3 ∧ w2.heap.size = g ∧ W3.cell? ⟨g, 0, none⟩ = some a ∧ W3.cell? ⟨g, 1, none⟩ = some b ∧ (∀ p v, p.block ≠ g → w2.cell? p = some v → W3.cell? p = some v) ∧ (∀ p v, w2.cell? p = some v → w2.frozen? p = false → W3.frozen? p = false) ∧ (∀ w : World, Below w.heap.size w w2 → Below w.heap.size w W3) ∧ ∀ ok v z, ¬ ok g → BI w2 ok v z → BI W3 ok v z :=
  ⟨_, _, rfl, rfl, c_new rfl rfl, c_new rfl rfl, fun p v _ h => c_low' h, fun p v h hf => f_low (World.block_lt_of_cell? _ _ h) hf, fun w h => below_alloc h _, fun ok v z _ h => h.below (below_alloc (Below.refl _ _) _)⟩
theorem way_b (w2 : World) (g : Nat) (a b a' b' : Value) (h0 : w2.cell? ⟨g, 0, none⟩ = some a') (h1 : w2.cell? ⟨g, 1, none⟩ = some b') : ∃ W3, (w2.setCell ⟨g, 0, none⟩ a).setCell ⟨g, 1, none⟩ b = W3 ∧ W3.cell? ⟨g, 0, none⟩ = some a ∧ W3.cell? ⟨g, 1, none⟩ = some b ∧ (∀ p v, p.block ≠ g → w2.cell? p = some v → W3.cell? p = some v) ∧ (∀ p v, w2.cell? p = some v → w2.frozen? p = false → W3.frozen? p = false) ∧ (∀ w : World, w.heap.size ≤ g → Below w.heap.size w w2 → Below w.heap.size w W3) ∧ ∀ ok v z, ¬ ok g → BI w2 ok v z → BI W3 ok v z :=
  ⟨_, rfl, kset1 (by simp) (csame h0), csame (kset1 (by simp) h1), fun p v hp h => kset (by simpa using hp) (kset (by simpa using hp) h), fun p v h hf => by simp only [World.frozen?_setCell]; exact hf, fun w hg h => below_set (below_set h hg) hg, fun ok v z hk h => (h.set' (p := ⟨g, 0, none⟩) hk _).set' (p := ⟨g, 1, none⟩) hk _⟩
set_option maxHeartbeats 4000000 in
set_option maxRecDepth 100000 in
theorem rquo_raw (w : World) (P Q : Nat → Prop) (s t : Bool) (m n : Nat) (A0 A1 : Option Addr) (c0 c1 : Nat) (h0 : BI w P (.agg #[.bool s, .slice A0 (dig m).length c0]) (sg s m)) (h1 : BI w Q (.agg #[.bool t, .slice A1 (dig n).length c1]) (sg t n)) (g0 : WN w P A0 c0 m) (g1 : WN w Q A1 c1 n) (hm : (dig m).length ≤ 8796093022208) (hm2 : (dig n).length ≤ 8796093022208) (hn : 0 < n) :
    Calls Try.prog 81 #[.agg #[.bool s, .slice A0 (dig m).length c0], .agg #[.bool t, .slice A1 (dig n).length c1]] w fun e w' => ∃ v u, e = .returned (.tuple #[v, u]) ∧ BI w' (fun k => w.heap.size ≤ k) v (sg (s != t) (m / n)) ∧ BI w' (fun k => w.heap.size ≤ k) u (sg s m - sg (s != t) (m / n) * sg t n) ∧ Below w.heap.size w w' := by
  have H0 := Aside0.mk h0
  have H1 := Aside0.mk h1
  have G0 := Aside0.mk g0
  have G1 := Aside0.mk g1
  have HM := Aside0.mk hm
  have HM2 := Aside0.mk hm2
  have HN := Aside0.mk hn
  clear h0 h1 g0 g1 hm hm2 hn
  go_enter Try.func81, Try.ntmps81
  obtain ⟨u, hu1⟩ : ∃ u : Bool, (s != t) = u := ⟨_, rfl⟩
  have HU := Aside0.mk hu1
  have hu2 : (!(s == t)) = u := hu1
  go_upto_region 1 with (fail)
  obtain ⟨W0, hW0, q0_0, q0_1, q0_2, q0_3, q0_4, q0_5, q0_6, q0_7, hf2, hf3, hsz, hbl⟩ := four_box w (.bool s) (.slice A0 (dig m).length c0) (.bool t) (.slice A1 (dig n).length c1) (.bool false) (.slice none 0 0) (.bool false) (.slice none 0 0) 106
  rw [← hW0]
  have f0_0 := hf2 0
  have f0_1 := hf2 1
  have f0_2 := hf3 0
  have f0_3 := hf3 1
  have l0_0 : Aside0 ((⟨w.heap.size + 1 + 1, 0, none⟩ : Addr).block < _) := ⟨World.block_lt_of_cell? _ _ q0_4⟩
  have l0_1 : Aside0 ((⟨w.heap.size + 1 + 1, 1, none⟩ : Addr).block < _) := ⟨World.block_lt_of_cell? _ _ q0_5⟩
  have l0_2 : Aside0 ((⟨w.heap.size + 1 + 1 + 1, 0, none⟩ : Addr).block < _) := ⟨World.block_lt_of_cell? _ _ q0_6⟩
  have l0_3 : Aside0 ((⟨w.heap.size + 1 + 1 + 1, 1, none⟩ : Addr).block < _) := ⟨World.block_lt_of_cell? _ _ q0_7⟩
  have qB0 : Kn (Below w.heap.size w W0) := ⟨hbl⟩
  have HSZ := Aside0.mk hsz
  have hs0 : w.heap.size + 1 + 1 + 1 < W0.heap.size := by omega
  clear hW0 hf2 hf3 hbl hsz
  skip; have qC0 : Kn (CL _ [⟨w.heap.size, 0, none⟩, ⟨w.heap.size, 1, none⟩, ⟨w.heap.size + 1, 0, none⟩, ⟨w.heap.size + 1, 1, none⟩, ⟨w.heap.size + 1 + 1, 0, none⟩, ⟨w.heap.size + 1 + 1, 1, none⟩, ⟨w.heap.size + 1 + 1 + 1, 0, none⟩, ⟨w.heap.size + 1 + 1 + 1, 1, none⟩] [.bool s, .slice A0 (dig m).length c0, .bool t, .slice A1 (dig n).length c1, .bool false, .slice none 0 0, .bool false, .slice none 0 0]) := ⟨cl_c q0_0 (cl_c q0_1 (cl_c q0_2 (cl_c q0_3 (cl_c q0_4 (cl_c q0_5 (cl_c q0_6 (cl_c q0_7 (cl_n _))))))))⟩; have qF0 : Kn (FZ _ [⟨w.heap.size + 1 + 1, 0, none⟩, ⟨w.heap.size + 1 + 1, 1, none⟩, ⟨w.heap.size + 1 + 1 + 1, 0, none⟩, ⟨w.heap.size + 1 + 1 + 1, 1, none⟩]) := ⟨fz_c (World.block_lt_of_cell? _ _ q0_4) f0_0 (fz_c (World.block_lt_of_cell? _ _ q0_5) f0_1 (fz_c (World.block_lt_of_cell? _ _ q0_6) f0_2 (fz_c (World.block_lt_of_cell? _ _ q0_7) f0_3 (fz_n _))))⟩
  go_region_held3 (fun W => W.cell? ⟨w.heap.size, 0, none⟩ = some (.bool s) ∧ W.cell? ⟨w.heap.size, 1, none⟩ = some (.slice A0 (dig m).length c0) ∧ W.cell? ⟨w.heap.size + 1, 0, none⟩ = some (.bool t) ∧ W.cell? ⟨w.heap.size + 1, 1, none⟩ = some (.slice A1 (dig n).length c1) ∧ Kn (Below w.heap.size w W)) (((repeat' apply And.intro) <;> first | with_reducible assumption | exact Kn.out | infer_instance | ((try (with_reducible refine c_drew ?_)); (repeat' (first | with_reducible refine kset Kn.out ?_ | with_reducible refine kset ‹_› ?_ | with_reducible refine c_low' ?_)); with_reducible assumption) | (constructor; (repeat (with_reducible refine below_set ?_ (by omega))); exact Kn.out) | ((repeat' (with_reducible refine kset (by simp only []; omega) ?_)); with_reducible assumption))) ((first | (go_at_call 93; (with_reducible refine (rparted_any _ A0 A1 c0 c1 m n (wd_below G0.out.wd ?hb1) (wd_below G1.out.wd ?hb1) HM.out HN.out).mono ?_); (case hb1 => first | exact Kn.out | with_reducible exact Aside0.out ‹_›); rintro e w1 ⟨E, ec, rfl, hE, hb⟩; have HE := Aside0.mk hE.low; clear hE; have hs1 : W0.heap.size ≤ w1.heap.size := (by have := hb.size; (try simp at this); omega); (try (have x1_0 := kc (p := ⟨W0.heap.size, 0, none⟩) (v := .bool false) hb (by first | exact c_new rfl rfl | exact c_drew (c_new rfl rfl)); have g1_0 := kf (p := ⟨W0.heap.size, 0, none⟩) (v := .bool false) hb (by first | exact c_new rfl rfl | exact c_drew (c_new rfl rfl)) (by first | exact f_new rfl | exact f_drew (f_new rfl)))); (try (have x1_1 := kc (p := ⟨W0.heap.size, 1, none⟩) (v := .slice none 0 0) hb (by first | exact c_new rfl rfl | exact c_drew (c_new rfl rfl)); have g1_1 := kf (p := ⟨W0.heap.size, 1, none⟩) (v := .slice none 0 0) hb (by first | exact c_new rfl rfl | exact c_drew (c_new rfl rfl)) (by first | exact f_new rfl | exact f_drew (f_new rfl)))); have qB1 := kn_b (w0 := w) hb; have qC1 : Kn (CL _ [⟨w.heap.size, 0, none⟩, ⟨w.heap.size, 1, none⟩, ⟨w.heap.size + 1, 0, none⟩, ⟨w.heap.size + 1, 1, none⟩, ⟨w.heap.size + 1 + 1, 0, none⟩, ⟨w.heap.size + 1 + 1, 1, none⟩, ⟨w.heap.size + 1 + 1 + 1, 0, none⟩, ⟨w.heap.size + 1 + 1 + 1, 1, none⟩] [.bool s, .slice A0 (dig m).length c0, .bool t, .slice A1 (dig n).length c1, .bool false, .slice none 0 0, .bool false, .slice none 0 0]) := kn_c hb; obtain ⟨q1_0, q1_1, q1_2, q1_3, q1_4, q1_5, q1_6, q1_7, -⟩ := qC1.out; have qF1 : Kn (FZ _ [⟨w.heap.size + 1 + 1, 0, none⟩, ⟨w.heap.size + 1 + 1, 1, none⟩, ⟨w.heap.size + 1 + 1 + 1, 0, none⟩, ⟨w.heap.size + 1 + 1 + 1, 1, none⟩]) := kn_f hb; obtain ⟨⟨-, f1_0⟩, ⟨-, f1_1⟩, ⟨-, f1_2⟩, ⟨-, f1_3⟩, -⟩ := qF1.out; clear hb) | (go_at_call 88; (with_reducible refine (rsigned_any _ _ u E ec (m / n) (HE.out.below ?hb2)).mono ?_); (case hb2 => first | exact Below.refl _ _ | exact below_alloc (Below.refl _ _) _ | exact below_drew (Below.refl _ _) | exact below_drew (below_alloc (Below.refl _ _) _)); rintro e w2 ⟨v, rfl, hv, hb⟩; obtain ⟨z, hz⟩ : ∃ z : Int, z = sg u (m / n) := ⟨_, rfl⟩; rw [← hz] at hv; have HZ := Aside0.mk hz; have XV := Aside0.mk hv; obtain ⟨D, d, rfl, -⟩ := hv; clear hz; have hs2 : w1.heap.size ≤ w2.heap.size := (by have := hb.size; (try simp at this); omega); (try (have x2_0 := kc hb x1_0; have g2_0 := kf hb x1_0 g1_0)); (try (have x2_1 := kc hb x1_1; have g2_1 := kf hb x1_1 g1_1)); (try (have x2_0 := kc (p := ⟨w1.heap.size, 0, none⟩) (v := .bool false) hb (by first | exact c_new rfl rfl | exact c_drew (c_new rfl rfl)); have g2_0 := kf (p := ⟨w1.heap.size, 0, none⟩) (v := .bool false) hb (by first | exact c_new rfl rfl | exact c_drew (c_new rfl rfl)) (by first | exact f_new rfl | exact f_drew (f_new rfl)))); (try (have x2_1 := kc (p := ⟨w1.heap.size, 1, none⟩) (v := .slice none 0 0) hb (by first | exact c_new rfl rfl | exact c_drew (c_new rfl rfl)); have g2_1 := kf (p := ⟨w1.heap.size, 1, none⟩) (v := .slice none 0 0) hb (by first | exact c_new rfl rfl | exact c_drew (c_new rfl rfl)) (by first | exact f_new rfl | exact f_drew (f_new rfl)))); have qB2 := kn_b (w0 := w) hb; have qC2 : Kn (CL _ [⟨w.heap.size, 0, none⟩, ⟨w.heap.size, 1, none⟩, ⟨w.heap.size + 1, 0, none⟩, ⟨w.heap.size + 1, 1, none⟩, ⟨w.heap.size + 1 + 1, 0, none⟩, ⟨w.heap.size + 1 + 1, 1, none⟩, ⟨w.heap.size + 1 + 1 + 1, 0, none⟩, ⟨w.heap.size + 1 + 1 + 1, 1, none⟩] [.bool s, .slice A0 (dig m).length c0, .bool t, .slice A1 (dig n).length c1, .bool false, .slice none 0 0, .bool false, .slice none 0 0]) := kn_c hb; obtain ⟨q2_0, q2_1, q2_2, q2_3, q2_4, q2_5, q2_6, q2_7, -⟩ := qC2.out; have qF2 : Kn (FZ _ [⟨w.heap.size + 1 + 1, 0, none⟩, ⟨w.heap.size + 1 + 1, 1, none⟩, ⟨w.heap.size + 1 + 1 + 1, 0, none⟩, ⟨w.heap.size + 1 + 1 + 1, 1, none⟩]) := kn_f hb; obtain ⟨⟨-, f2_0⟩, ⟨-, f2_1⟩, ⟨-, f2_2⟩, ⟨-, f2_3⟩, -⟩ := qF2.out; clear hb)))
  · obtain ⟨W3, gq, hW3, hgq, x3_0, x3_1, hc, hf, hbl, hbi⟩ := way_a w2 (.bool (decide (z < 0))) (.slice D (dig z.natAbs).length d) 106
    rw [hW3, hgq]
    have hgq1 : w.heap.size + 1 + 1 + 1 < gq := by omega
    have hqB := hbl w qB2.out
    have XV3 := hbi _ _ _ (by simp; omega) XV.out
    have q3_0 := hc _ _ (by simp only []; omega) q2_0
    have q3_1 := hc _ _ (by simp only []; omega) q2_1
    have q3_2 := hc _ _ (by simp only []; omega) q2_2
    have q3_3 := hc _ _ (by simp only []; omega) q2_3
    have q3_4 := hc _ _ (by simp only []; omega) q2_4
    have q3_5 := hc _ _ (by simp only []; omega) q2_5
    have q3_6 := hc _ _ (by simp only []; omega) q2_6
    have q3_7 := hc _ _ (by simp only []; omega) q2_7
    have f3_0 := hf _ _ q2_4 f2_0
    have l3_0 := Aside0.mk (World.block_lt_of_cell? _ _ q3_4)
    have f3_1 := hf _ _ q2_5 f2_1
    have l3_1 := Aside0.mk (World.block_lt_of_cell? _ _ q3_5)
    have f3_2 := hf _ _ q2_6 f2_2
    have l3_2 := Aside0.mk (World.block_lt_of_cell? _ _ q3_6)
    have f3_3 := hf _ _ q2_7 f2_3
    have l3_3 := Aside0.mk (World.block_lt_of_cell? _ _ q3_7)
    have qB3 := Kn.mk hqB
    have XV4 := Aside0.mk (XV3.mono (ok' := fun k => w.heap.size + 1 + 1 + 1 < k) (fun k hk => by simp at hk; omega))
    have HG3 := Aside0.mk hgq1
    clear hc hf hbl hbi hW3 hgq hqB XV3
    have HM3 : Aside0 ((dig (sg t n).natAbs).length ≤ 35184372088832) := ⟨by rw [sg_abs]; have := HM2.out; omega⟩
    have HM4 : Aside0 ((dig (sg s m).natAbs).length ≤ 35184372088832) := ⟨by rw [sg_abs]; have := HM.out; omega⟩
    have HZL : Aside0 ((dig z.natAbs).length ≤ 35184372088832) := ⟨by rw [HZ.out, sg_abs]; have := HM.out; have := dig_len_mono (Nat.div_le_self m n); omega⟩
    go_wp2
    skip; have qC3 : Kn (CL _ [⟨w.heap.size, 0, none⟩, ⟨w.heap.size, 1, none⟩, ⟨w.heap.size + 1, 0, none⟩, ⟨w.heap.size + 1, 1, none⟩, ⟨w.heap.size + 1 + 1, 0, none⟩, ⟨w.heap.size + 1 + 1, 1, none⟩, ⟨w.heap.size + 1 + 1 + 1, 0, none⟩, ⟨w.heap.size + 1 + 1 + 1, 1, none⟩] [.bool s, .slice A0 (dig m).length c0, .bool t, .slice A1 (dig n).length c1, .bool false, .slice none 0 0, .bool false, .slice none 0 0]) := ⟨cl_c q3_0 (cl_c q3_1 (cl_c q3_2 (cl_c q3_3 (cl_c q3_4 (cl_c q3_5 (cl_c q3_6 (cl_c q3_7 (cl_n _))))))))⟩; have qF3 : Kn (FZ _ [⟨w.heap.size + 1 + 1, 0, none⟩, ⟨w.heap.size + 1 + 1, 1, none⟩, ⟨w.heap.size + 1 + 1 + 1, 0, none⟩, ⟨w.heap.size + 1 + 1 + 1, 1, none⟩]) := ⟨fz_c (World.block_lt_of_cell? _ _ q3_4) f3_0 (fz_c (World.block_lt_of_cell? _ _ q3_5) f3_1 (fz_c (World.block_lt_of_cell? _ _ q3_6) f3_2 (fz_c (World.block_lt_of_cell? _ _ q3_7) f3_3 (fz_n _))))⟩
    go_region_held3 (fun W => W.cell? ⟨w.heap.size, 0, none⟩ = some (.bool s) ∧ W.cell? ⟨w.heap.size, 1, none⟩ = some (.slice A0 (dig m).length c0) ∧ W.cell? ⟨w.heap.size + 1, 0, none⟩ = some (.bool t) ∧ W.cell? ⟨w.heap.size + 1, 1, none⟩ = some (.slice A1 (dig n).length c1) ∧ W.cell? (⟨gq, 0, none⟩) = some (.bool (decide (z < 0))) ∧ W.cell? (⟨gq, 1, none⟩) = some (.slice D (dig z.natAbs).length d) ∧ Kn (Below w.heap.size w W)) (((repeat' apply And.intro) <;> first | with_reducible assumption | exact Kn.out | infer_instance | ((try (with_reducible refine c_drew ?_)); (repeat' (first | with_reducible refine kset Kn.out ?_ | with_reducible refine kset ‹_› ?_ | with_reducible refine c_low' ?_)); with_reducible assumption) | (constructor; (repeat (with_reducible refine below_set ?_ (by omega))); exact Kn.out) | ((repeat' (with_reducible refine kset (by simp only []; omega) ?_)); with_reducible assumption))) ((first | (go_at_call 78; (with_reducible refine (rtimes_any _ _ _ _ _ z (sg t n) (XV4.out.below ?hbx) (H1.out.below ?hb3) HZL.out HM3.out).mono ?_); (case hb3 => first | exact Kn.out | with_reducible exact Aside0.out ‹_›); (case hbx => first | exact Below.refl _ _ | exact below_drew (Below.refl _ _)); rintro e w4 ⟨v, rfl, hv, hb⟩; obtain ⟨y, hy⟩ : ∃ y : Int, y = z * sg t n := ⟨_, rfl⟩; rw [← hy] at hv; have HY := Aside0.mk hy; have XY := Aside0.mk hv; have XV5 := Aside0.mk ((XV4.out.below (below_drew (Below.refl _ _))).below hb); obtain ⟨E2, e2, rfl, -⟩ := hv; clear hy; have qB4 := kn_b (w0 := w) hb; have qC4 : Kn (CL _ [⟨w.heap.size, 0, none⟩, ⟨w.heap.size, 1, none⟩, ⟨w.heap.size + 1, 0, none⟩, ⟨w.heap.size + 1, 1, none⟩, ⟨w.heap.size + 1 + 1, 0, none⟩, ⟨w.heap.size + 1 + 1, 1, none⟩, ⟨w.heap.size + 1 + 1 + 1, 0, none⟩, ⟨w.heap.size + 1 + 1 + 1, 1, none⟩] [.bool s, .slice A0 (dig m).length c0, .bool t, .slice A1 (dig n).length c1, .bool false, .slice none 0 0, .bool false, .slice none 0 0]) := kn_c hb; obtain ⟨q4_0, q4_1, q4_2, q4_3, q4_4, q4_5, q4_6, q4_7, -⟩ := qC4.out; have qF4 : Kn (FZ _ [⟨w.heap.size + 1 + 1, 0, none⟩, ⟨w.heap.size + 1 + 1, 1, none⟩, ⟨w.heap.size + 1 + 1 + 1, 0, none⟩, ⟨w.heap.size + 1 + 1 + 1, 1, none⟩]) := kn_f hb; obtain ⟨⟨-, f4_0⟩, ⟨-, f4_1⟩, ⟨-, f4_2⟩, ⟨-, f4_3⟩, -⟩ := qF4.out; have x4_0 := kc (p := ⟨gq, 0, none⟩) (v := .bool (decide (z < 0))) hb (by first | with_reducible assumption | (with_reducible refine c_low' ?_; with_reducible assumption) | (with_reducible refine c_drew ?_; with_reducible assumption) | (with_reducible refine c_drew (c_low' ?_); with_reducible assumption)); have x4_1 := kc (p := ⟨gq, 1, none⟩) (v := .slice D (dig z.natAbs).length d) hb (by first | with_reducible assumption | (with_reducible refine c_low' ?_; with_reducible assumption) | (with_reducible refine c_drew ?_; with_reducible assumption) | (with_reducible refine c_drew (c_low' ?_); with_reducible assumption)); clear hb) | (go_at_call 94; (with_reducible refine (rminus_any _ _ _ _ _ (sg s m) y (H0.out.below ?hb4) XY.out HM4.out ?hyl).mono ?_); (case hyl => exact quo_small HZ.out HY.out HM.out); (case hb4 => first | exact Kn.out | with_reducible exact Aside0.out ‹_›); rintro e w5 ⟨v, rfl, hv, hb⟩; obtain ⟨r, hr⟩ : ∃ r : Int, r = sg s m - y := ⟨_, rfl⟩; rw [← hr] at hv; have HRR := Aside0.mk hr; have XR := Aside0.mk hv; have XV6 := Aside0.mk (XV5.out.below hb); obtain ⟨R, rc, rfl, -⟩ := hv; clear hr; have qB5 := kn_b (w0 := w) hb; have qC5 : Kn (CL _ [⟨w.heap.size, 0, none⟩, ⟨w.heap.size, 1, none⟩, ⟨w.heap.size + 1, 0, none⟩, ⟨w.heap.size + 1, 1, none⟩, ⟨w.heap.size + 1 + 1, 0, none⟩, ⟨w.heap.size + 1 + 1, 1, none⟩, ⟨w.heap.size + 1 + 1 + 1, 0, none⟩, ⟨w.heap.size + 1 + 1 + 1, 1, none⟩] [.bool s, .slice A0 (dig m).length c0, .bool t, .slice A1 (dig n).length c1, .bool false, .slice none 0 0, .bool false, .slice none 0 0]) := kn_c hb; obtain ⟨q5_0, q5_1, q5_2, q5_3, q5_4, q5_5, q5_6, q5_7, -⟩ := qC5.out; have qF5 : Kn (FZ _ [⟨w.heap.size + 1 + 1, 0, none⟩, ⟨w.heap.size + 1 + 1, 1, none⟩, ⟨w.heap.size + 1 + 1 + 1, 0, none⟩, ⟨w.heap.size + 1 + 1 + 1, 1, none⟩]) := kn_f hb; obtain ⟨⟨-, f5_0⟩, ⟨-, f5_1⟩, ⟨-, f5_2⟩, ⟨-, f5_3⟩, -⟩ := qF5.out; have x5_0 := kc (p := ⟨gq, 0, none⟩) (v := .bool (decide (z < 0))) hb (by first | with_reducible assumption | (with_reducible refine c_low' ?_; with_reducible assumption) | (with_reducible refine c_drew ?_; with_reducible assumption) | (with_reducible refine c_drew (c_low' ?_); with_reducible assumption)); have x5_1 := kc (p := ⟨gq, 1, none⟩) (v := .slice D (dig z.natAbs).length d) hb (by first | with_reducible assumption | (with_reducible refine c_low' ?_; with_reducible assumption) | (with_reducible refine c_drew ?_; with_reducible assumption) | (with_reducible refine c_drew (c_low' ?_); with_reducible assumption)); clear hb)))
    go_wp2
    have hlt4 : w.heap.size + 1 + 1 + 1 < w4.heap.size := World.block_lt_of_cell? _ _ q4_7
    refine bodyPost_ret (v := .tuple #[.agg #[.bool (decide (z < 0)), .slice D (dig z.natAbs).length d], .agg #[.bool (decide (r < 0)), .slice R (dig r.natAbs).length rc]]) (by simp [results, Try.results81, go_sem, q5_4, q5_5, q5_6, q5_7]) rfl ⟨_, _, rfl, ?_, ?_, below_set (below_set (below_set (below_set qB5.out (le_two _)) (le_two _)) (le_three _)) (le_three _)⟩
    · rw [HU.out, ← HZ.out]
      exact ((((XV6.out.set' (p := ⟨w.heap.size + 1 + 1, 0, none⟩) (by simp only []; omega) _).set' (p := ⟨w.heap.size + 1 + 1, 1, none⟩) (by simp only []; omega) _).set' (p := ⟨w.heap.size + 1 + 1 + 1, 0, none⟩) (by simp only []; omega) _).set' (p := ⟨w.heap.size + 1 + 1 + 1, 1, none⟩) (by simp only []; omega) _).mono fun k hk => by omega
    · rw [HU.out, ← HZ.out, ← HY.out, ← HRR.out]
      exact ((((XR.out.set' (p := ⟨w.heap.size + 1 + 1, 0, none⟩) (by simp only []; omega) _).set' (p := ⟨w.heap.size + 1 + 1, 1, none⟩) (by simp only []; omega) _).set' (p := ⟨w.heap.size + 1 + 1 + 1, 0, none⟩) (by simp only []; omega) _).set' (p := ⟨w.heap.size + 1 + 1 + 1, 1, none⟩) (by simp only []; omega) _).mono fun k hk => by omega
  · obtain ⟨gq, hgq⟩ : ∃ gq, w1.heap.size = gq := ⟨_, rfl⟩
    rw [hgq] at x2_0 x2_1 g2_0 g2_1 ⊢
    obtain ⟨W3, hW3, x3_0, x3_1, hc, hf, hbl, hbi⟩ := way_b w2 gq (.bool (decide (z < 0))) (.slice D (dig z.natAbs).length d) _ _ x2_0 x2_1
    rw [hW3]
    have hgq1 : w.heap.size + 1 + 1 + 1 < gq := by omega
    have hqB := hbl w (by omega) qB2.out
    have XV3 := hbi _ _ _ (by simp; omega) XV.out
    have q3_0 := hc _ _ (by simp only []; omega) q2_0
    have q3_1 := hc _ _ (by simp only []; omega) q2_1
    have q3_2 := hc _ _ (by simp only []; omega) q2_2
    have q3_3 := hc _ _ (by simp only []; omega) q2_3
    have q3_4 := hc _ _ (by simp only []; omega) q2_4
    have q3_5 := hc _ _ (by simp only []; omega) q2_5
    have q3_6 := hc _ _ (by simp only []; omega) q2_6
    have q3_7 := hc _ _ (by simp only []; omega) q2_7
    have f3_0 := hf _ _ q2_4 f2_0
    have l3_0 := Aside0.mk (World.block_lt_of_cell? _ _ q3_4)
    have f3_1 := hf _ _ q2_5 f2_1
    have l3_1 := Aside0.mk (World.block_lt_of_cell? _ _ q3_5)
    have f3_2 := hf _ _ q2_6 f2_2
    have l3_2 := Aside0.mk (World.block_lt_of_cell? _ _ q3_6)
    have f3_3 := hf _ _ q2_7 f2_3
    have l3_3 := Aside0.mk (World.block_lt_of_cell? _ _ q3_7)
    have qB3 := Kn.mk hqB
    have XV4 := Aside0.mk (XV3.mono (ok' := fun k => w.heap.size + 1 + 1 + 1 < k) (fun k hk => by simp at hk; omega))
    have HG3 := Aside0.mk hgq1
    clear hc hf hbl hbi hW3 hgq hqB XV3
    have HM3 : Aside0 ((dig (sg t n).natAbs).length ≤ 35184372088832) := ⟨by rw [sg_abs]; have := HM2.out; omega⟩
    have HM4 : Aside0 ((dig (sg s m).natAbs).length ≤ 35184372088832) := ⟨by rw [sg_abs]; have := HM.out; omega⟩
    have HZL : Aside0 ((dig z.natAbs).length ≤ 35184372088832) := ⟨by rw [HZ.out, sg_abs]; have := HM.out; have := dig_len_mono (Nat.div_le_self m n); omega⟩
    go_wp2
    skip; have qC3 : Kn (CL _ [⟨w.heap.size, 0, none⟩, ⟨w.heap.size, 1, none⟩, ⟨w.heap.size + 1, 0, none⟩, ⟨w.heap.size + 1, 1, none⟩, ⟨w.heap.size + 1 + 1, 0, none⟩, ⟨w.heap.size + 1 + 1, 1, none⟩, ⟨w.heap.size + 1 + 1 + 1, 0, none⟩, ⟨w.heap.size + 1 + 1 + 1, 1, none⟩] [.bool s, .slice A0 (dig m).length c0, .bool t, .slice A1 (dig n).length c1, .bool false, .slice none 0 0, .bool false, .slice none 0 0]) := ⟨cl_c q3_0 (cl_c q3_1 (cl_c q3_2 (cl_c q3_3 (cl_c q3_4 (cl_c q3_5 (cl_c q3_6 (cl_c q3_7 (cl_n _))))))))⟩; have qF3 : Kn (FZ _ [⟨w.heap.size + 1 + 1, 0, none⟩, ⟨w.heap.size + 1 + 1, 1, none⟩, ⟨w.heap.size + 1 + 1 + 1, 0, none⟩, ⟨w.heap.size + 1 + 1 + 1, 1, none⟩]) := ⟨fz_c (World.block_lt_of_cell? _ _ q3_4) f3_0 (fz_c (World.block_lt_of_cell? _ _ q3_5) f3_1 (fz_c (World.block_lt_of_cell? _ _ q3_6) f3_2 (fz_c (World.block_lt_of_cell? _ _ q3_7) f3_3 (fz_n _))))⟩
    go_region_held3 (fun W => W.cell? ⟨w.heap.size, 0, none⟩ = some (.bool s) ∧ W.cell? ⟨w.heap.size, 1, none⟩ = some (.slice A0 (dig m).length c0) ∧ W.cell? ⟨w.heap.size + 1, 0, none⟩ = some (.bool t) ∧ W.cell? ⟨w.heap.size + 1, 1, none⟩ = some (.slice A1 (dig n).length c1) ∧ W.cell? (⟨gq, 0, none⟩) = some (.bool (decide (z < 0))) ∧ W.cell? (⟨gq, 1, none⟩) = some (.slice D (dig z.natAbs).length d) ∧ Kn (Below w.heap.size w W)) (((repeat' apply And.intro) <;> first | with_reducible assumption | exact Kn.out | infer_instance | ((try (with_reducible refine c_drew ?_)); (repeat' (first | with_reducible refine kset Kn.out ?_ | with_reducible refine kset ‹_› ?_ | with_reducible refine c_low' ?_)); with_reducible assumption) | (constructor; (repeat (with_reducible refine below_set ?_ (by omega))); exact Kn.out) | ((repeat' (with_reducible refine kset (by simp only []; omega) ?_)); with_reducible assumption))) ((first | (go_at_call 78; (with_reducible refine (rtimes_any _ _ _ _ _ z (sg t n) (XV4.out.below ?hbx) (H1.out.below ?hb3) HZL.out HM3.out).mono ?_); (case hb3 => first | exact Kn.out | with_reducible exact Aside0.out ‹_›); (case hbx => first | exact Below.refl _ _ | exact below_drew (Below.refl _ _)); rintro e w4 ⟨v, rfl, hv, hb⟩; obtain ⟨y, hy⟩ : ∃ y : Int, y = z * sg t n := ⟨_, rfl⟩; rw [← hy] at hv; have HY := Aside0.mk hy; have XY := Aside0.mk hv; have XV5 := Aside0.mk ((XV4.out.below (below_drew (Below.refl _ _))).below hb); obtain ⟨E2, e2, rfl, -⟩ := hv; clear hy; have qB4 := kn_b (w0 := w) hb; have qC4 : Kn (CL _ [⟨w.heap.size, 0, none⟩, ⟨w.heap.size, 1, none⟩, ⟨w.heap.size + 1, 0, none⟩, ⟨w.heap.size + 1, 1, none⟩, ⟨w.heap.size + 1 + 1, 0, none⟩, ⟨w.heap.size + 1 + 1, 1, none⟩, ⟨w.heap.size + 1 + 1 + 1, 0, none⟩, ⟨w.heap.size + 1 + 1 + 1, 1, none⟩] [.bool s, .slice A0 (dig m).length c0, .bool t, .slice A1 (dig n).length c1, .bool false, .slice none 0 0, .bool false, .slice none 0 0]) := kn_c hb; obtain ⟨q4_0, q4_1, q4_2, q4_3, q4_4, q4_5, q4_6, q4_7, -⟩ := qC4.out; have qF4 : Kn (FZ _ [⟨w.heap.size + 1 + 1, 0, none⟩, ⟨w.heap.size + 1 + 1, 1, none⟩, ⟨w.heap.size + 1 + 1 + 1, 0, none⟩, ⟨w.heap.size + 1 + 1 + 1, 1, none⟩]) := kn_f hb; obtain ⟨⟨-, f4_0⟩, ⟨-, f4_1⟩, ⟨-, f4_2⟩, ⟨-, f4_3⟩, -⟩ := qF4.out; have x4_0 := kc (p := ⟨gq, 0, none⟩) (v := .bool (decide (z < 0))) hb (by first | with_reducible assumption | (with_reducible refine c_low' ?_; with_reducible assumption) | (with_reducible refine c_drew ?_; with_reducible assumption) | (with_reducible refine c_drew (c_low' ?_); with_reducible assumption)); have x4_1 := kc (p := ⟨gq, 1, none⟩) (v := .slice D (dig z.natAbs).length d) hb (by first | with_reducible assumption | (with_reducible refine c_low' ?_; with_reducible assumption) | (with_reducible refine c_drew ?_; with_reducible assumption) | (with_reducible refine c_drew (c_low' ?_); with_reducible assumption)); clear hb) | (go_at_call 94; (with_reducible refine (rminus_any _ _ _ _ _ (sg s m) y (H0.out.below ?hb4) XY.out HM4.out ?hyl).mono ?_); (case hyl => exact quo_small HZ.out HY.out HM.out); (case hb4 => first | exact Kn.out | with_reducible exact Aside0.out ‹_›); rintro e w5 ⟨v, rfl, hv, hb⟩; obtain ⟨r, hr⟩ : ∃ r : Int, r = sg s m - y := ⟨_, rfl⟩; rw [← hr] at hv; have HRR := Aside0.mk hr; have XR := Aside0.mk hv; have XV6 := Aside0.mk (XV5.out.below hb); obtain ⟨R, rc, rfl, -⟩ := hv; clear hr; have qB5 := kn_b (w0 := w) hb; have qC5 : Kn (CL _ [⟨w.heap.size, 0, none⟩, ⟨w.heap.size, 1, none⟩, ⟨w.heap.size + 1, 0, none⟩, ⟨w.heap.size + 1, 1, none⟩, ⟨w.heap.size + 1 + 1, 0, none⟩, ⟨w.heap.size + 1 + 1, 1, none⟩, ⟨w.heap.size + 1 + 1 + 1, 0, none⟩, ⟨w.heap.size + 1 + 1 + 1, 1, none⟩] [.bool s, .slice A0 (dig m).length c0, .bool t, .slice A1 (dig n).length c1, .bool false, .slice none 0 0, .bool false, .slice none 0 0]) := kn_c hb; obtain ⟨q5_0, q5_1, q5_2, q5_3, q5_4, q5_5, q5_6, q5_7, -⟩ := qC5.out; have qF5 : Kn (FZ _ [⟨w.heap.size + 1 + 1, 0, none⟩, ⟨w.heap.size + 1 + 1, 1, none⟩, ⟨w.heap.size + 1 + 1 + 1, 0, none⟩, ⟨w.heap.size + 1 + 1 + 1, 1, none⟩]) := kn_f hb; obtain ⟨⟨-, f5_0⟩, ⟨-, f5_1⟩, ⟨-, f5_2⟩, ⟨-, f5_3⟩, -⟩ := qF5.out; have x5_0 := kc (p := ⟨gq, 0, none⟩) (v := .bool (decide (z < 0))) hb (by first | with_reducible assumption | (with_reducible refine c_low' ?_; with_reducible assumption) | (with_reducible refine c_drew ?_; with_reducible assumption) | (with_reducible refine c_drew (c_low' ?_); with_reducible assumption)); have x5_1 := kc (p := ⟨gq, 1, none⟩) (v := .slice D (dig z.natAbs).length d) hb (by first | with_reducible assumption | (with_reducible refine c_low' ?_; with_reducible assumption) | (with_reducible refine c_drew ?_; with_reducible assumption) | (with_reducible refine c_drew (c_low' ?_); with_reducible assumption)); clear hb)))
    go_wp2
    have hlt4 : w.heap.size + 1 + 1 + 1 < w4.heap.size := World.block_lt_of_cell? _ _ q4_7
    refine bodyPost_ret (v := .tuple #[.agg #[.bool (decide (z < 0)), .slice D (dig z.natAbs).length d], .agg #[.bool (decide (r < 0)), .slice R (dig r.natAbs).length rc]]) (by simp [results, Try.results81, go_sem, q5_4, q5_5, q5_6, q5_7]) rfl ⟨_, _, rfl, ?_, ?_, below_set (below_set (below_set (below_set qB5.out (le_two _)) (le_two _)) (le_three _)) (le_three _)⟩
    · rw [HU.out, ← HZ.out]
      exact ((((XV6.out.set' (p := ⟨w.heap.size + 1 + 1, 0, none⟩) (by simp only []; omega) _).set' (p := ⟨w.heap.size + 1 + 1, 1, none⟩) (by simp only []; omega) _).set' (p := ⟨w.heap.size + 1 + 1 + 1, 0, none⟩) (by simp only []; omega) _).set' (p := ⟨w.heap.size + 1 + 1 + 1, 1, none⟩) (by simp only []; omega) _).mono fun k hk => by omega
    · rw [HU.out, ← HZ.out, ← HY.out, ← HRR.out]
      exact ((((XR.out.set' (p := ⟨w.heap.size + 1 + 1, 0, none⟩) (by simp only []; omega) _).set' (p := ⟨w.heap.size + 1 + 1, 1, none⟩) (by simp only []; omega) _).set' (p := ⟨w.heap.size + 1 + 1 + 1, 0, none⟩) (by simp only []; omega) _).set' (p := ⟨w.heap.size + 1 + 1 + 1, 1, none⟩) (by simp only []; omega) _).mono fun k hk => by omega
  · obtain ⟨gq, hgq⟩ : ∃ gq, W0.heap.size = gq := ⟨_, rfl⟩
    rw [hgq] at x2_0 x2_1 g2_0 g2_1 ⊢
    obtain ⟨W3, hW3, x3_0, x3_1, hc, hf, hbl, hbi⟩ := way_b w2 gq (.bool (decide (z < 0))) (.slice D (dig z.natAbs).length d) _ _ x2_0 x2_1
    rw [hW3]
    have hgq1 : w.heap.size + 1 + 1 + 1 < gq := by omega
    have hqB := hbl w (by omega) qB2.out
    have XV3 := hbi _ _ _ (by simp; omega) XV.out
    have q3_0 := hc _ _ (by simp only []; omega) q2_0
    have q3_1 := hc _ _ (by simp only []; omega) q2_1
    have q3_2 := hc _ _ (by simp only []; omega) q2_2
    have q3_3 := hc _ _ (by simp only []; omega) q2_3
    have q3_4 := hc _ _ (by simp only []; omega) q2_4
    have q3_5 := hc _ _ (by simp only []; omega) q2_5
    have q3_6 := hc _ _ (by simp only []; omega) q2_6
    have q3_7 := hc _ _ (by simp only []; omega) q2_7
    have f3_0 := hf _ _ q2_4 f2_0
    have l3_0 := Aside0.mk (World.block_lt_of_cell? _ _ q3_4)
    have f3_1 := hf _ _ q2_5 f2_1
    have l3_1 := Aside0.mk (World.block_lt_of_cell? _ _ q3_5)
    have f3_2 := hf _ _ q2_6 f2_2
    have l3_2 := Aside0.mk (World.block_lt_of_cell? _ _ q3_6)
    have f3_3 := hf _ _ q2_7 f2_3
    have l3_3 := Aside0.mk (World.block_lt_of_cell? _ _ q3_7)
    have qB3 := Kn.mk hqB
    have XV4 := Aside0.mk (XV3.mono (ok' := fun k => w.heap.size + 1 + 1 + 1 < k) (fun k hk => by simp at hk; omega))
    have HG3 := Aside0.mk hgq1
    clear hc hf hbl hbi hW3 hgq hqB XV3
    have HM3 : Aside0 ((dig (sg t n).natAbs).length ≤ 35184372088832) := ⟨by rw [sg_abs]; have := HM2.out; omega⟩
    have HM4 : Aside0 ((dig (sg s m).natAbs).length ≤ 35184372088832) := ⟨by rw [sg_abs]; have := HM.out; omega⟩
    have HZL : Aside0 ((dig z.natAbs).length ≤ 35184372088832) := ⟨by rw [HZ.out, sg_abs]; have := HM.out; have := dig_len_mono (Nat.div_le_self m n); omega⟩
    go_wp2
    skip; have qC3 : Kn (CL _ [⟨w.heap.size, 0, none⟩, ⟨w.heap.size, 1, none⟩, ⟨w.heap.size + 1, 0, none⟩, ⟨w.heap.size + 1, 1, none⟩, ⟨w.heap.size + 1 + 1, 0, none⟩, ⟨w.heap.size + 1 + 1, 1, none⟩, ⟨w.heap.size + 1 + 1 + 1, 0, none⟩, ⟨w.heap.size + 1 + 1 + 1, 1, none⟩] [.bool s, .slice A0 (dig m).length c0, .bool t, .slice A1 (dig n).length c1, .bool false, .slice none 0 0, .bool false, .slice none 0 0]) := ⟨cl_c q3_0 (cl_c q3_1 (cl_c q3_2 (cl_c q3_3 (cl_c q3_4 (cl_c q3_5 (cl_c q3_6 (cl_c q3_7 (cl_n _))))))))⟩; have qF3 : Kn (FZ _ [⟨w.heap.size + 1 + 1, 0, none⟩, ⟨w.heap.size + 1 + 1, 1, none⟩, ⟨w.heap.size + 1 + 1 + 1, 0, none⟩, ⟨w.heap.size + 1 + 1 + 1, 1, none⟩]) := ⟨fz_c (World.block_lt_of_cell? _ _ q3_4) f3_0 (fz_c (World.block_lt_of_cell? _ _ q3_5) f3_1 (fz_c (World.block_lt_of_cell? _ _ q3_6) f3_2 (fz_c (World.block_lt_of_cell? _ _ q3_7) f3_3 (fz_n _))))⟩
    go_region_held3 (fun W => W.cell? ⟨w.heap.size, 0, none⟩ = some (.bool s) ∧ W.cell? ⟨w.heap.size, 1, none⟩ = some (.slice A0 (dig m).length c0) ∧ W.cell? ⟨w.heap.size + 1, 0, none⟩ = some (.bool t) ∧ W.cell? ⟨w.heap.size + 1, 1, none⟩ = some (.slice A1 (dig n).length c1) ∧ W.cell? (⟨gq, 0, none⟩) = some (.bool (decide (z < 0))) ∧ W.cell? (⟨gq, 1, none⟩) = some (.slice D (dig z.natAbs).length d) ∧ Kn (Below w.heap.size w W)) (((repeat' apply And.intro) <;> first | with_reducible assumption | exact Kn.out | infer_instance | ((try (with_reducible refine c_drew ?_)); (repeat' (first | with_reducible refine kset Kn.out ?_ | with_reducible refine kset ‹_› ?_ | with_reducible refine c_low' ?_)); with_reducible assumption) | (constructor; (repeat (with_reducible refine below_set ?_ (by omega))); exact Kn.out) | ((repeat' (with_reducible refine kset (by simp only []; omega) ?_)); with_reducible assumption))) ((first | (go_at_call 78; (with_reducible refine (rtimes_any _ _ _ _ _ z (sg t n) (XV4.out.below ?hbx) (H1.out.below ?hb3) HZL.out HM3.out).mono ?_); (case hb3 => first | exact Kn.out | with_reducible exact Aside0.out ‹_›); (case hbx => first | exact Below.refl _ _ | exact below_drew (Below.refl _ _)); rintro e w4 ⟨v, rfl, hv, hb⟩; obtain ⟨y, hy⟩ : ∃ y : Int, y = z * sg t n := ⟨_, rfl⟩; rw [← hy] at hv; have HY := Aside0.mk hy; have XY := Aside0.mk hv; have XV5 := Aside0.mk ((XV4.out.below (below_drew (Below.refl _ _))).below hb); obtain ⟨E2, e2, rfl, -⟩ := hv; clear hy; have qB4 := kn_b (w0 := w) hb; have qC4 : Kn (CL _ [⟨w.heap.size, 0, none⟩, ⟨w.heap.size, 1, none⟩, ⟨w.heap.size + 1, 0, none⟩, ⟨w.heap.size + 1, 1, none⟩, ⟨w.heap.size + 1 + 1, 0, none⟩, ⟨w.heap.size + 1 + 1, 1, none⟩, ⟨w.heap.size + 1 + 1 + 1, 0, none⟩, ⟨w.heap.size + 1 + 1 + 1, 1, none⟩] [.bool s, .slice A0 (dig m).length c0, .bool t, .slice A1 (dig n).length c1, .bool false, .slice none 0 0, .bool false, .slice none 0 0]) := kn_c hb; obtain ⟨q4_0, q4_1, q4_2, q4_3, q4_4, q4_5, q4_6, q4_7, -⟩ := qC4.out; have qF4 : Kn (FZ _ [⟨w.heap.size + 1 + 1, 0, none⟩, ⟨w.heap.size + 1 + 1, 1, none⟩, ⟨w.heap.size + 1 + 1 + 1, 0, none⟩, ⟨w.heap.size + 1 + 1 + 1, 1, none⟩]) := kn_f hb; obtain ⟨⟨-, f4_0⟩, ⟨-, f4_1⟩, ⟨-, f4_2⟩, ⟨-, f4_3⟩, -⟩ := qF4.out; have x4_0 := kc (p := ⟨gq, 0, none⟩) (v := .bool (decide (z < 0))) hb (by first | with_reducible assumption | (with_reducible refine c_low' ?_; with_reducible assumption) | (with_reducible refine c_drew ?_; with_reducible assumption) | (with_reducible refine c_drew (c_low' ?_); with_reducible assumption)); have x4_1 := kc (p := ⟨gq, 1, none⟩) (v := .slice D (dig z.natAbs).length d) hb (by first | with_reducible assumption | (with_reducible refine c_low' ?_; with_reducible assumption) | (with_reducible refine c_drew ?_; with_reducible assumption) | (with_reducible refine c_drew (c_low' ?_); with_reducible assumption)); clear hb) | (go_at_call 94; (with_reducible refine (rminus_any _ _ _ _ _ (sg s m) y (H0.out.below ?hb4) XY.out HM4.out ?hyl).mono ?_); (case hyl => exact quo_small HZ.out HY.out HM.out); (case hb4 => first | exact Kn.out | with_reducible exact Aside0.out ‹_›); rintro e w5 ⟨v, rfl, hv, hb⟩; obtain ⟨r, hr⟩ : ∃ r : Int, r = sg s m - y := ⟨_, rfl⟩; rw [← hr] at hv; have HRR := Aside0.mk hr; have XR := Aside0.mk hv; have XV6 := Aside0.mk (XV5.out.below hb); obtain ⟨R, rc, rfl, -⟩ := hv; clear hr; have qB5 := kn_b (w0 := w) hb; have qC5 : Kn (CL _ [⟨w.heap.size, 0, none⟩, ⟨w.heap.size, 1, none⟩, ⟨w.heap.size + 1, 0, none⟩, ⟨w.heap.size + 1, 1, none⟩, ⟨w.heap.size + 1 + 1, 0, none⟩, ⟨w.heap.size + 1 + 1, 1, none⟩, ⟨w.heap.size + 1 + 1 + 1, 0, none⟩, ⟨w.heap.size + 1 + 1 + 1, 1, none⟩] [.bool s, .slice A0 (dig m).length c0, .bool t, .slice A1 (dig n).length c1, .bool false, .slice none 0 0, .bool false, .slice none 0 0]) := kn_c hb; obtain ⟨q5_0, q5_1, q5_2, q5_3, q5_4, q5_5, q5_6, q5_7, -⟩ := qC5.out; have qF5 : Kn (FZ _ [⟨w.heap.size + 1 + 1, 0, none⟩, ⟨w.heap.size + 1 + 1, 1, none⟩, ⟨w.heap.size + 1 + 1 + 1, 0, none⟩, ⟨w.heap.size + 1 + 1 + 1, 1, none⟩]) := kn_f hb; obtain ⟨⟨-, f5_0⟩, ⟨-, f5_1⟩, ⟨-, f5_2⟩, ⟨-, f5_3⟩, -⟩ := qF5.out; have x5_0 := kc (p := ⟨gq, 0, none⟩) (v := .bool (decide (z < 0))) hb (by first | with_reducible assumption | (with_reducible refine c_low' ?_; with_reducible assumption) | (with_reducible refine c_drew ?_; with_reducible assumption) | (with_reducible refine c_drew (c_low' ?_); with_reducible assumption)); have x5_1 := kc (p := ⟨gq, 1, none⟩) (v := .slice D (dig z.natAbs).length d) hb (by first | with_reducible assumption | (with_reducible refine c_low' ?_; with_reducible assumption) | (with_reducible refine c_drew ?_; with_reducible assumption) | (with_reducible refine c_drew (c_low' ?_); with_reducible assumption)); clear hb)))
    go_wp2
    have hlt4 : w.heap.size + 1 + 1 + 1 < w4.heap.size := World.block_lt_of_cell? _ _ q4_7
    refine bodyPost_ret (v := .tuple #[.agg #[.bool (decide (z < 0)), .slice D (dig z.natAbs).length d], .agg #[.bool (decide (r < 0)), .slice R (dig r.natAbs).length rc]]) (by simp [results, Try.results81, go_sem, q5_4, q5_5, q5_6, q5_7]) rfl ⟨_, _, rfl, ?_, ?_, below_set (below_set (below_set (below_set qB5.out (le_two _)) (le_two _)) (le_three _)) (le_three _)⟩
    · rw [HU.out, ← HZ.out]
      exact ((((XV6.out.set' (p := ⟨w.heap.size + 1 + 1, 0, none⟩) (by simp only []; omega) _).set' (p := ⟨w.heap.size + 1 + 1, 1, none⟩) (by simp only []; omega) _).set' (p := ⟨w.heap.size + 1 + 1 + 1, 0, none⟩) (by simp only []; omega) _).set' (p := ⟨w.heap.size + 1 + 1 + 1, 1, none⟩) (by simp only []; omega) _).mono fun k hk => by omega
    · rw [HU.out, ← HZ.out, ← HY.out, ← HRR.out]
      exact ((((XR.out.set' (p := ⟨w.heap.size + 1 + 1, 0, none⟩) (by simp only []; omega) _).set' (p := ⟨w.heap.size + 1 + 1, 1, none⟩) (by simp only []; omega) _).set' (p := ⟨w.heap.size + 1 + 1 + 1, 0, none⟩) (by simp only []; omega) _).set' (p := ⟨w.heap.size + 1 + 1 + 1, 1, none⟩) (by simp only []; omega) _).mono fun k hk => by omega
theorem tdiv_sg (x y : Int) : sg (decide (x < 0) != decide (y < 0)) (x.natAbs / y.natAbs) = x.tdiv y := by
  have h := sg_of x
  have h' := sg_of y
  conv => rhs; rw [← h, ← h']
  generalize decide (x < 0) = s
  generalize decide (y < 0) = t
  unfold sg
  cases s <;> cases t <;> simp [Int.tdiv_neg, Int.neg_tdiv, Int.ofNat_tdiv]
theorem rquo_bi (w : World) (P Q : Nat → Prop) (u v : Value) (x y : Int) (h0 : BI w P u x) (h1 : BI w Q v y) (hm : (dig x.natAbs).length ≤ 8796093022208) (hm2 : (dig y.natAbs).length ≤ 8796093022208) (hy : y ≠ 0) :
    Calls Try.prog 81 #[u, v] w fun e w' => ∃ v u, e = .returned (.tuple #[v, u]) ∧ BI w' (fun k => w.heap.size ≤ k) v (x.tdiv y) ∧ BI w' (fun k => w.heap.size ≤ k) u (x.tmod y) ∧ Below w.heap.size w w' := by
  have k0 := h0
  have k1 := h1
  obtain ⟨A, c, rfl, hc, hw, ho⟩ := h0
  obtain ⟨B, d, rfl, hd, hv, hp⟩ := h1
  have := rquo_raw w P Q (decide (x < 0)) (decide (y < 0)) x.natAbs y.natAbs A B c d (by rw [sg_of]; exact k0) (by rw [sg_of]; exact k1) ⟨hw, hc, ho⟩ ⟨hv, hd, hp⟩ hm hm2 (by omega)
  rw [tdiv_sg, sg_of, sg_of, show x - x.tdiv y * y = x.tmod y by rw [Int.tmod_def, Int.mul_comm]] at this
  exact this
theorem rquo_nat (w : World) (P Q : Nat → Prop) (m n : Nat) (A0 A1 : Option Addr) (c0 c1 : Nat) (h0 : WN w P A0 c0 m) (h1 : WN w Q A1 c1 n) (hm : (dig m).length ≤ 8796093022208) (hm2 : (dig n).length ≤ 8796093022208) (hn : 0 < n) :
    Calls Try.prog 81 #[.agg #[.bool false, .slice A0 (dig m).length c0], .agg #[.bool false, .slice A1 (dig n).length c1]] w fun e w' =>
      ∃ (D : Option Addr) (d : Nat) (B : Option Addr) (c : Nat), e = .returned (.tuple #[.agg #[.bool false, .slice D (dig (m / n)).length d], .agg #[.bool false, .slice B (dig (m % n)).length c]]) ∧ WN w' (fun k => w.heap.size ≤ k) D d (m / n) ∧ WN w' (fun k => w.heap.size ≤ k) B c (m % n) ∧ Below w.heap.size w w' := by
  have := rquo_bi w P Q _ _ (m : Int) (n : Int) h0.bi h1.bi (by simpa using hm) (by simpa using hm2) (by omega)
  refine this.mono ?_
  rintro e w' ⟨v, u, rfl, hv, hu, hb⟩
  rw [show (m : Int).tmod n = ((m % n : Nat) : Int) from rfl] at hu
  rw [show (m : Int).tdiv n = ((m / n : Nat) : Int) from rfl] at hv
  obtain ⟨B, c, rfl, hB⟩ := hu.nat
  obtain ⟨D, d, rfl, hD⟩ := hv.nat
  exact ⟨D, d, B, c, rfl, hD, hB, hb⟩
end Go.Proofs.Ytlaidcoickeihaa.Nb
namespace Go.Proofs.Ytlaidcoickeihaa.Nb
open Go.RowKit Go.Proofs.Ytlaidcoickeihaa.Wd.PrintWords Go.Proofs.Ytlaidcoickeihaa.Wd.PrintLast Go.Proofs.Ytlaidcoickeihaa.Wd.PrintMore Go.Proofs.Ytlaidcoickeihaa.Big
set_option synthInstance.maxSize 2000
set_option synthInstance.maxHeartbeats 400000
set_option maxHeartbeats 4000000 in
set_option maxRecDepth 100000 in
theorem rzero_any (w : World) (s : Bool) (A : Option Addr) (n c : Nat) (b : Bool) (hb : decide (n = 0) = b) :
    Calls Try.prog 92 #[.agg #[.bool s, .slice A n c]] w fun e w' => e = .returned (.bool b) ∧ Below w.heap.size w w' := by
  by_cases h : n = 0
  · subst h
    have hb' : b = true := by rw [← hb]; rfl
    subst hb'
    clear hb
    go_enter Try.func92, Try.ntmps92
    go_wp2
    go_ret
    exact ⟨rfl, below_alloc (Below.refl _ _) _⟩
  · have hb' : b = false := by rw [← hb]; exact decide_eq_false h
    subst hb'
    have hz : ((n : Int) == 0) = false := by rw [beq_eq_false_iff_ne]; omega
    clear hb h
    go_enter Try.func92, Try.ntmps92
    go_wp2
    go_ret
    exact ⟨rfl, below_alloc (Below.refl _ _) _⟩
theorem swap0 (W : World) (n : Nat) (x0 x1 y0 y1 a0 a1 b0 b1 r0 r1 : Value) (h0 : W.cell? ⟨n, 0, none⟩ = some a0) (h1 : W.cell? ⟨n, 1, none⟩ = some a1) (h2 : W.cell? ⟨n + 1, 0, none⟩ = some b0) (h3 : W.cell? ⟨n + 1, 1, none⟩ = some b1) (h4 : W.cell? ⟨n + 1 + 1, 0, none⟩ = some r0) (h5 : W.cell? ⟨n + 1 + 1, 1, none⟩ = some r1) {W' : World}
    (hW : W' = (((W.setCell ⟨n, 0, none⟩ x0).setCell ⟨n, 1, none⟩ x1).setCell ⟨n + 1, 0, none⟩ y0).setCell ⟨n + 1, 1, none⟩ y1) :
    (W'.cell? ⟨n, 0, none⟩ = some x0 ∧ W'.cell? ⟨n, 1, none⟩ = some x1) ∧ (W'.cell? ⟨n + 1, 0, none⟩ = some y0 ∧ W'.cell? ⟨n + 1, 1, none⟩ = some y1) ∧ (W'.cell? ⟨n + 1 + 1, 0, none⟩ = some r0 ∧ W'.cell? ⟨n + 1 + 1, 1, none⟩ = some r1) ∧ (∀ a, W'.frozen? a = W.frozen? a) ∧
    (∀ ok A c k, ¬ ok n → ¬ ok (n + 1) → WN W ok A c k → WN W' ok A c k) := by
  subst hW
  refine ⟨⟨?_, ?_⟩, ⟨?_, ?_⟩, ⟨?_, ?_⟩, ?_, ?_⟩
  · exact kset (by_ne1 _) (kset (by_ne1 _) (kset1 (by simp) (csame h0)))
  · exact kset (by_ne1 _) (kset (by_ne1 _) (csame (kset1 (by simp) h1)))
  · exact kset1 (by simp) (csame (kset (by simp) (kset (by simp) h2)))
  · exact csame (kset1 (by simp) (kset (by simp) (kset (by simp) h3)))
  · exact kset (by simp) (kset (by simp) (kset (by simp only []; omega) (kset (by simp only []; omega) h4)))
  · exact kset (by simp) (kset (by simp) (kset (by simp only []; omega) (kset (by simp only []; omega) h5)))
  · intro a
    simp only [World.frozen?_setCell]
  · intro ok A c k k0 k1 h
    exact (((h.set (p := ⟨n, 0, none⟩) k0 _).set (p := ⟨n, 1, none⟩) k0 _).set (p := ⟨n + 1, 0, none⟩) k1 _).set (p := ⟨n + 1, 1, none⟩) k1 _
set_option maxHeartbeats 4000000 in
set_option maxRecDepth 100000 in
theorem rcommon_raw (w : World) (P : Nat → Prop) (s t : Bool) (M N : Nat) (A0 A1 : Option Addr) (c0 c1 : Nat) (h0 : WN w P A0 c0 M) (h1 : WN w P A1 c1 N) (hm : (dig M).length ≤ 8796093022208) (hn : (dig N).length ≤ 8796093022208) :
    Calls Try.prog 80 #[.agg #[.bool s, .slice A0 (dig M).length c0], .agg #[.bool t, .slice A1 (dig N).length c1]] w (NewI w (fun k => P k ∨ w.heap.size ≤ k) (Nat.gcd M N)) := by
  have H0 := Aside0.mk h0
  have H1 := Aside0.mk h1
  have HM := Aside0.mk hm
  have HN := Aside0.mk hn
  clear h0 h1 hm hn
  go_enter Try.func80, Try.ntmps80
  go_wp2
  go_loopg [] N (fun g W => ∃ (m : Nat) (A D : Option Addr) (c d : Nat), Aside0 (Below w.heap.size w W) ∧ (W.cell? ⟨w.heap.size, 0, none⟩ = some (.bool false) ∧ W.cell? ⟨w.heap.size, 1, none⟩ = some (.slice A (dig m).length c)) ∧ (W.cell? ⟨w.heap.size + 1, 0, none⟩ = some (.bool false) ∧ W.cell? ⟨w.heap.size + 1, 1, none⟩ = some (.slice D (dig g).length d)) ∧ (W.cell? ⟨w.heap.size + 1 + 1, 0, none⟩ = some (.bool false) ∧ W.cell? ⟨w.heap.size + 1 + 1, 1, none⟩ = some (.slice none 0 0)) ∧ Aside0 (∀ b i, w.heap.size ≤ b → b ≤ w.heap.size + 1 + 1 → W.frozen? ⟨b, i, none⟩ = false) ∧
    Aside0 (WN W (fun k => P k ∧ k < w.heap.size ∨ w.heap.size + 1 + 1 + 1 ≤ k) A c m ∧ WN W (fun k => P k ∧ k < w.heap.size ∨ w.heap.size + 1 + 1 + 1 ≤ k) D d g ∧ Nat.gcd m g = Nat.gcd M N ∧ (dig m).length ≤ 8796093022208 ∧ (dig g).length ≤ 8796093022208))
  case atStart =>
    refine ⟨M, A0, A1, c0, c1, ⟨below_alloc (below_alloc (below_alloc (Below.refl _ _) _) _) _⟩, ⟨c_low' (c_low' (c_new rfl rfl)), c_low' (c_low' (c_new rfl rfl))⟩, ⟨c_low' (c_new (by simp) rfl), c_low' (c_new (by simp) rfl)⟩, ⟨c_new (by simp) rfl, c_new (by simp) rfl⟩, ⟨?_⟩, ⟨?_, ?_, rfl, HM.out, HN.out⟩⟩
    · exact fro3 w _ _ _ _
    · exact (H0.out.low.below (below_alloc (below_alloc (below_alloc (Below.refl _ _) _) _) _)).mono fun k h => .inl h
    · exact (H1.out.low.below (below_alloc (below_alloc (below_alloc (Below.refl _ _) _) _) _)).mono fun k h => .inl h
  case round =>
    obtain ⟨m, A, D, c, d, HB, ⟨p0, p1⟩, ⟨p2, p3⟩, ⟨p4, p5⟩, HF, HR⟩ := hrel
    have f0 := HF.out w.heap.size 0 (by omega) (by omega)
    have f1 := HF.out w.heap.size 1 (by omega) (by omega)
    have f2 := HF.out (w.heap.size + 1) 0 (by omega) (by omega)
    have f3 := HF.out (w.heap.size + 1) 1 (by omega) (by omega)
    have f4 := HF.out (w.heap.size + 1 + 1) 0 (by omega) (by omega)
    have f5 := HF.out (w.heap.size + 1 + 1) 1 (by omega) (by omega)
    have hsz := World.block_lt_of_cell? _ _ p5
    have qBs := Kn.mk HB.out; have qCs : Kn (CL _ [⟨w.heap.size, 0, none⟩, ⟨w.heap.size, 1, none⟩, ⟨w.heap.size + 1, 0, none⟩, ⟨w.heap.size + 1, 1, none⟩, ⟨w.heap.size + 1 + 1, 0, none⟩, ⟨w.heap.size + 1 + 1, 1, none⟩] [.bool false, .slice A (dig m).length c, .bool false, .slice D (dig gk).length d, .bool false, .slice none 0 0]) := ⟨cl_c p0 (cl_c p1 (cl_c p2 (cl_c p3 (cl_c p4 (cl_c p5 (cl_n _))))))⟩; have qFs : Kn (FZ _ [⟨w.heap.size, 0, none⟩, ⟨w.heap.size, 1, none⟩, ⟨w.heap.size + 1, 0, none⟩, ⟨w.heap.size + 1, 1, none⟩, ⟨w.heap.size + 1 + 1, 0, none⟩, ⟨w.heap.size + 1 + 1, 1, none⟩]) := ⟨fz_c (World.block_lt_of_cell? _ _ p0) f0 (fz_c (World.block_lt_of_cell? _ _ p1) f1 (fz_c (World.block_lt_of_cell? _ _ p2) f2 (fz_c (World.block_lt_of_cell? _ _ p3) f3 (fz_c (World.block_lt_of_cell? _ _ p4) f4 (fz_c (World.block_lt_of_cell? _ _ p5) f5 (fz_n _))))))⟩
    rcases Nat.eq_zero_or_pos gk with hz | hz
    · have HG := Aside0.mk hz
      have HZ := Aside0.mk (show decide ((dig gk).length = 0) = true by rw [hz, dig_zero]; rfl)
      clear hz
      go_wp2_with (go_at_call 92; (with_reducible refine (rzero_any wr false D (dig gk).length d true HZ.out).mono ?_); rintro e w1 ⟨rfl, hb⟩; have HR1 := Aside0.mk (HR.out.1.below hb); have HBB := Kn.mk (below_step HB.out hb); have qB0 := kn_b (w0 := w) hb; have qC0 : Kn (CL _ [⟨w.heap.size, 0, none⟩, ⟨w.heap.size, 1, none⟩, ⟨w.heap.size + 1, 0, none⟩, ⟨w.heap.size + 1, 1, none⟩, ⟨w.heap.size + 1 + 1, 0, none⟩, ⟨w.heap.size + 1 + 1, 1, none⟩] [.bool false, .slice A (dig m).length c, .bool false, .slice D (dig gk).length d, .bool false, .slice none 0 0]) := kn_c hb; obtain ⟨q0_0, q0_1, q0_2, q0_3, q0_4, q0_5, -⟩ := qC0.out; have qF0 : Kn (FZ _ [⟨w.heap.size, 0, none⟩, ⟨w.heap.size, 1, none⟩, ⟨w.heap.size + 1, 0, none⟩, ⟨w.heap.size + 1, 1, none⟩, ⟨w.heap.size + 1 + 1, 0, none⟩, ⟨w.heap.size + 1 + 1, 1, none⟩]) := kn_f hb; obtain ⟨⟨-, f0_0⟩, ⟨-, f0_1⟩, ⟨-, f0_2⟩, ⟨-, f0_3⟩, ⟨-, f0_4⟩, ⟨-, f0_5⟩, -⟩ := qF0.out; clear hb)
      have hm : m = Nat.gcd M N := by rw [← HR.out.2.2.1, HG.out]; exact (Nat.gcd_zero_right m).symm
      refine bodyPost_ret (v := .agg #[.bool false, .slice A (dig m).length c]) (by simp [results, Try.results80, go_sem, q0_4, q0_5]) rfl ⟨_, rfl, ?_, below_set (below_set HBB.out (le_two _)) (le_two _)⟩
      rw [← hm]
      exact (((HR1.out.set (p := ⟨w.heap.size + 1 + 1, 0, none⟩) (not_ok (le_two _) (Nat.lt_succ_self _)) _).set (p := ⟨w.heap.size + 1 + 1, 1, none⟩) (not_ok (le_two _) (Nat.lt_succ_self _)) _).mono fun k hk => or_ok hk).bi
    · have HG := Aside0.mk hz
      have HZ := Aside0.mk (show decide ((dig gk).length = 0) = false by apply decide_eq_false; have := @dig_len_ne gk (by omega); omega)
      clear hz
      go_upto_region 5 with (first | (go_at_call 92; (with_reducible refine (rzero_any wr false D (dig gk).length d false HZ.out).mono ?_); rintro e w1 ⟨rfl, hb⟩; have HR1 := Aside0.mk (HR.out.1.below hb); have HD1 := Aside0.mk (HR.out.2.1.below hb); have HBB := Kn.mk (below_step HB.out hb); have HW01 := Aside0.mk hb; have qB0 := kn_b (w0 := w) hb; have qC0 : Kn (CL _ [⟨w.heap.size, 0, none⟩, ⟨w.heap.size, 1, none⟩, ⟨w.heap.size + 1, 0, none⟩, ⟨w.heap.size + 1, 1, none⟩, ⟨w.heap.size + 1 + 1, 0, none⟩, ⟨w.heap.size + 1 + 1, 1, none⟩] [.bool false, .slice A (dig m).length c, .bool false, .slice D (dig gk).length d, .bool false, .slice none 0 0]) := kn_c hb; obtain ⟨q0_0, q0_1, q0_2, q0_3, q0_4, q0_5, -⟩ := qC0.out; have qF0 : Kn (FZ _ [⟨w.heap.size, 0, none⟩, ⟨w.heap.size, 1, none⟩, ⟨w.heap.size + 1, 0, none⟩, ⟨w.heap.size + 1, 1, none⟩, ⟨w.heap.size + 1 + 1, 0, none⟩, ⟨w.heap.size + 1 + 1, 1, none⟩]) := kn_f hb; obtain ⟨⟨-, f0_0⟩, ⟨-, f0_1⟩, ⟨-, f0_2⟩, ⟨-, f0_3⟩, ⟨-, f0_4⟩, ⟨-, f0_5⟩, -⟩ := qF0.out; clear hb) | (go_at_call 81; (with_reducible refine (rquo_nat w1 _ _ m gk A D c d HR1.out HD1.out HR.out.2.2.2.1 HR.out.2.2.2.2 HG.out).mono ?_); rintro e w2 ⟨U, uc, E, e1, rfl, -, hN, hb⟩; have HN2 := Aside0.mk hN; have HD2 := Aside0.mk (HD1.out.below hb); have HBW := Kn.mk (below_step HBB.out hb); have HW12 := Aside0.mk hb; clear hN; have qB1 := kn_b (w0 := w) hb; have qC1 : Kn (CL _ [⟨w.heap.size, 0, none⟩, ⟨w.heap.size, 1, none⟩, ⟨w.heap.size + 1, 0, none⟩, ⟨w.heap.size + 1, 1, none⟩, ⟨w.heap.size + 1 + 1, 0, none⟩, ⟨w.heap.size + 1 + 1, 1, none⟩] [.bool false, .slice A (dig m).length c, .bool false, .slice D (dig gk).length d, .bool false, .slice none 0 0]) := kn_c hb; obtain ⟨q1_0, q1_1, q1_2, q1_3, q1_4, q1_5, -⟩ := qC1.out; have qF1 : Kn (FZ _ [⟨w.heap.size, 0, none⟩, ⟨w.heap.size, 1, none⟩, ⟨w.heap.size + 1, 0, none⟩, ⟨w.heap.size + 1, 1, none⟩, ⟨w.heap.size + 1 + 1, 0, none⟩, ⟨w.heap.size + 1 + 1, 1, none⟩]) := kn_f hb; obtain ⟨⟨-, f1_0⟩, ⟨-, f1_1⟩, ⟨-, f1_2⟩, ⟨-, f1_3⟩, ⟨-, f1_4⟩, ⟨-, f1_5⟩, -⟩ := qF1.out; clear hb))
      obtain ⟨W3, g2, hW3, hg2, b0, b1, hb3⟩ := two_new w2 (.bool false) (.slice U (dig (m / gk)).length uc) (.bool false) (.slice E (dig (m % gk)).length e1) 106
      rw [← hW3, ← hg2]
      have hsz2 : w.heap.size + 1 + 1 < w2.heap.size := World.block_lt_of_cell? _ _ q1_5
      have r0 := kc hb3 q1_0; have fz0 := kf hb3 q1_0 f1_0; have r1 := kc hb3 q1_1; have fz1 := kf hb3 q1_1 f1_1; have r2 := kc hb3 q1_2; have fz2 := kf hb3 q1_2 f1_2; have r3 := kc hb3 q1_3; have fz3 := kf hb3 q1_3 f1_3; have r4 := kc hb3 q1_4; have fz4 := kf hb3 q1_4 f1_4; have r5 := kc hb3 q1_5; have fz5 := kf hb3 q1_5 f1_5
      have n1 : ¬ g2 = w.heap.size := by omega
      have n2 : ¬ g2 = w.heap.size + 1 := by omega
      have n3 : ¬ w.heap.size = g2 := by omega
      have n4 : ¬ w.heap.size + 1 = g2 := by omega
      have HB2 := Kn.mk (below_step qB1.out hb3)
      have HSZ := Aside0.mk hsz2
      have HB21 := Aside0.mk hb3
      have HSZ0 := Aside0.mk hsz
      have hgcd : Nat.gcd gk (m % gk) = Nat.gcd M N := by rw [← HR.out.2.2.1, Nat.gcd_comm, ← Nat.gcd_rec, Nat.gcd_comm]
      have hlt : m % gk < gk := Nat.mod_lt _ HG.out
      have hE : WN w2 (fun k => P k ∧ k < w.heap.size ∨ w.heap.size + 1 + 1 + 1 ≤ k) E e1 (m % gk) := HN2.out.mono fun k hk => .inr (by
        have : w.heap.size + 1 + 1 < w1.heap.size := World.block_lt_of_cell? _ _ q0_5
        omega)
      have HGG := Aside0.mk hgcd
      have HE := Aside0.mk hE
      have HLT := Aside0.mk hlt
      clear hW3 hg2 hsz2 hsz hb3 hgcd hE hlt
      go_wp2
      go_roundg (m % gk)
      case measure => exact HLT.out
      case rel =>
        obtain ⟨s0, s1, s2, s3, s4⟩ := swap0 W3 w.heap.size (.bool false) (.slice D (dig gk).length d) (.bool false) (.slice E (dig (m % gk)).length e1) _ _ _ _ _ _ r0 r1 r2 r3 r4 r5 rfl
        refine ⟨gk, D, E, d, e1, ⟨?_⟩, s0, s1, s2, ⟨?_⟩, ⟨s4 _ _ _ _ ?_ ?_ (HD2.out.below HB21.out), s4 _ _ _ _ ?_ ?_ (HE.out.below HB21.out), HGG.out, HR.out.2.2.2.2, ?_⟩⟩
        · exact below_set (below_set (below_set (below_set HB2.out (Nat.le_refl _)) (Nat.le_refl _)) (Nat.le_add_right _ _)) (Nat.le_add_right _ _)
        · intro b i h0 h1
          have z1 : w.heap.size + 1 + 1 < w2.heap.size := HSZ.out
          have z2 : w.heap.size + 1 + 1 < w1.heap.size := World.block_lt_of_cell? _ _ q0_5
          have z3 : w.heap.size + 1 + 1 < wr.heap.size := HSZ0.out
          rw [s3]
          exact (HB21.out.frozen (Nat.lt_of_le_of_lt h1 z1)).trans ((HW12.out.frozen (Nat.lt_of_le_of_lt h1 z2)).trans ((HW01.out.frozen (Nat.lt_of_le_of_lt h1 z3)).trans (HF.out b i h0 h1)))
        · exact not_ok (by omega) (by omega)
        · exact not_ok (by omega) (by omega)
        · exact not_ok (by omega) (by omega)
        · exact not_ok (by omega) (by omega)
        · exact Nat.le_trans (dig_len_mono (Nat.le_of_lt HLT.out)) HR.out.2.2.2.2
theorem rcommon_any (w : World) (P : Nat → Prop) (u v : Value) (x y : Int) (h0 : BI w P u x) (h1 : BI w P v y) (hm : (dig x.natAbs).length ≤ 8796093022208) (hn : (dig y.natAbs).length ≤ 8796093022208) :
    Calls Try.prog 80 #[u, v] w (NewI w (fun k => P k ∨ w.heap.size ≤ k) (Int.gcd x y)) := by
  obtain ⟨A, c, rfl, hc, hw, ho⟩ := h0
  obtain ⟨B, d, rfl, hd, hv, hp⟩ := h1
  exact rcommon_raw w P _ _ _ _ A B c d ⟨hw, hc, ho⟩ ⟨hv, hd, hp⟩ hm hn
end Go.Proofs.Ytlaidcoickeihaa.Nb
namespace Go.Proofs.Ytlaidcoickeihaa.Nb
open Go.RowKit Go.Proofs.Ytlaidcoickeihaa.Wd.PrintWords Go.Proofs.Ytlaidcoickeihaa.Wd.PrintLast Go.Proofs.Ytlaidcoickeihaa.Wd.PrintMore Go.Proofs.Ytlaidcoickeihaa.Big
set_option synthInstance.maxSize 2000
set_option synthInstance.maxHeartbeats 400000
end Go.Proofs.Ytlaidcoickeihaa.Nb
namespace Go.Proofs.Ytlaidcoickeihaa.Nb
open Go.RowKit Go.Proofs.Ytlaidcoickeihaa.Wd.PrintWords Go.Proofs.Ytlaidcoickeihaa.Wd.PrintLast Go.Proofs.Ytlaidcoickeihaa.Wd.PrintMore Go.Proofs.Ytlaidcoickeihaa.Big
set_option synthInstance.maxSize 2000
set_option synthInstance.maxHeartbeats 400000
structure RParts (w : World) (ok : Nat → Prop) (q : Rat) (A B : Option Addr) (c d : Nat) (n dd : Int) : Prop where
  num : BI w ok (arg n A c) n
  den : BI w ok (arg dd B d) dd
  isnum : q.num = n
  isden : (q.den : Int) = dd
def RF (w : World) (ok : Nat → Prop) (v : Value) (q : Rat) : Prop :=
  ∃ A B c d n dd, v = .agg #[.bool (decide (n < 0)), .slice A (dig n.natAbs).length c, .bool (decide (dd < 0)), .slice B (dig dd.natAbs).length d] ∧ RParts w ok q A B c d n dd
theorem RParts.below {w w' : World} {ok : Nat → Prop} {q : Rat} {A B : Option Addr} {c d : Nat} {n dd : Int} (h : RParts w ok q A B c d n dd) (hb : Below w.heap.size w w') : RParts w' ok q A B c d n dd := ⟨h.num.below hb, h.den.below hb, h.isnum, h.isden⟩
theorem RParts.mono {w : World} {ok ok' : Nat → Prop} {q : Rat} {A B : Option Addr} {c d : Nat} {n dd : Int} (h : RParts w ok q A B c d n dd) (hk : ∀ k, ok k → ok' k) : RParts w ok' q A B c d n dd := ⟨h.num.mono hk, h.den.mono hk, h.isnum, h.isden⟩
theorem RParts.low {w : World} {ok : Nat → Prop} {q : Rat} {A B : Option Addr} {c d : Nat} {n dd : Int} (h : RParts w ok q A B c d n dd) : RParts w (fun k => ok k ∧ k < w.heap.size) q A B c d n dd := ⟨h.num.low, h.den.low, h.isnum, h.isden⟩
theorem RParts.set4 {w : World} {ok : Nat → Prop} {q : Rat} {A B : Option Addr} {c d : Nat} {n dd : Int} (h : RParts w ok q A B c d n dd) {g : Nat} (hg : ¬ ok g) (u0 u1 u2 u3 : Value) :
    RParts ((((w.setCell ⟨g, 0, none⟩ u0).setCell ⟨g, 1, none⟩ u1).setCell ⟨g, 2, none⟩ u2).setCell ⟨g, 3, none⟩ u3) ok q A B c d n dd :=
  ⟨(((h.num.set' (p := ⟨g, 0, none⟩) hg _).set' (p := ⟨g, 1, none⟩) hg _).set' (p := ⟨g, 2, none⟩) hg _).set' (p := ⟨g, 3, none⟩) hg _, (((h.den.set' (p := ⟨g, 0, none⟩) hg _).set' (p := ⟨g, 1, none⟩) hg _).set' (p := ⟨g, 2, none⟩) hg _).set' (p := ⟨g, 3, none⟩) hg _, h.isnum, h.isden⟩
theorem RF.below {w w' : World} {ok : Nat → Prop} {v : Value} {q : Rat} (h : RF w ok v q) (hb : Below w.heap.size w w') : RF w' ok v q := by
  obtain ⟨A, B, c, d, n, dd, e, h⟩ := h
  exact ⟨A, B, c, d, n, dd, e, h.below hb⟩
theorem RF.mono {w : World} {ok ok' : Nat → Prop} {v : Value} {q : Rat} (h : RF w ok v q) (hk : ∀ k, ok k → ok' k) : RF w ok' v q := by
  obtain ⟨A, B, c, d, n, dd, e, h⟩ := h
  exact ⟨A, B, c, d, n, dd, e, h.mono hk⟩
theorem RF.low {w : World} {ok : Nat → Prop} {v : Value} {q : Rat} (h : RF w ok v q) : RF w (fun k => ok k ∧ k < w.heap.size) v q := by
  obtain ⟨A, B, c, d, n, dd, e, h⟩ := h
  exact ⟨A, B, c, d, n, dd, e, h.low⟩
theorem over_small {x y : Int} (hy : y ≠ 0) : y.sign.natAbs * ((Int.gcd x y : Nat) : Int).natAbs ≤ y.natAbs := by
  have h1 : y.sign.natAbs = 1 := Int.natAbs_sign_of_ne_zero hy
  rw [h1, Nat.one_mul, Int.natAbs_natCast]
  exact Nat.le_of_dvd (by omega) (Int.ofNat_dvd_left.1 (Int.gcd_dvd_right x y))
set_option maxHeartbeats 4000000 in
set_option maxRecDepth 100000 in
theorem rover_raw (w : World) (P : Nat → Prop) (x y : Int) (A D : Option Addr) (c d : Nat) (h0 : BI w P (arg x A c) x) (h1 : BI w P (arg y D d) y) (hm : (dig x.natAbs).length ≤ 8796093022208) (hn : (dig y.natAbs).length ≤ 8796093022208) (hy : y ≠ 0) :
    Calls Try.prog 64 #[arg x A c, arg y D d] w fun e w' => ∃ v, e = .returned v ∧ RF w' (fun k => w.heap.size ≤ k) v (Rat.divInt x y) ∧ Below w.heap.size w w' := by
  have X0 := Aside0.mk h0.low
  obtain ⟨sb, hsb⟩ : ∃ sb : Bool, decide (y < 0) = sb := ⟨_, rfl⟩
  have X1 := Aside0.mk (show BI w (fun k => P k ∧ k < w.heap.size) (.agg #[.bool sb, .slice D (dig y.natAbs).length d]) y by rw [← hsb]; exact h1.low)
  have HM := Aside0.mk hm
  have HN := Aside0.mk hn
  have HY := Aside0.mk hy
  rw [arg, arg, hsb]
  clear h0 h1 hm hn hy
  cases sb with
  | true =>
    have HYS := Aside0.mk (of_decide_eq_true hsb)
    clear hsb
    go_enter Try.func64, Try.ntmps64
    go_upto_region 2 with (go_at_call 80; (with_reducible refine (rcommon_any _ _ _ _ x y (X0.out.below ?hb2) (X1.out.below ?hb2) HM.out HN.out).mono ?_); (case hb2 => first | exact Kn.out | with_reducible exact Aside0.out ‹_›); rintro e w2 ⟨v, rfl, hv, hb⟩; obtain ⟨z, hz⟩ : ∃ z : Int, z = ((Int.gcd x y : Nat) : Int) := ⟨_, rfl⟩; rw [← hz] at hv; have HZ := Aside0.mk hz; have XG0 := Aside0.mk hv.low; obtain ⟨G, gc, rfl, -⟩ := hv; have W12 := Aside0.mk hb; clear hz; have qB0 := kn_b (w0 := w) hb; have qC0 : Kn (CL _ [⟨w.heap.size, 0, none⟩, ⟨w.heap.size, 1, none⟩, ⟨w.heap.size + 1, 0, none⟩, ⟨w.heap.size + 1, 1, none⟩, ⟨w.heap.size + 1 + 1, 0, none⟩, ⟨w.heap.size + 1 + 1, 1, none⟩, ⟨w.heap.size + 1 + 1, 2, none⟩, ⟨w.heap.size + 1 + 1, 3, none⟩] [.bool (decide (x < 0)), .slice A (dig x.natAbs).length c, .bool true, .slice D (dig y.natAbs).length d, .bool false, .slice none 0 0, .bool false, .slice none 0 0]) := kn_c hb; obtain ⟨q0_0, q0_1, q0_2, q0_3, q0_4, q0_5, q0_6, q0_7, -⟩ := qC0.out; have qF0 : Kn (FZ _ [⟨w.heap.size + 1 + 1, 0, none⟩, ⟨w.heap.size + 1 + 1, 1, none⟩, ⟨w.heap.size + 1 + 1, 2, none⟩, ⟨w.heap.size + 1 + 1, 3, none⟩]) := kn_f hb; obtain ⟨⟨-, f0_0⟩, ⟨-, f0_1⟩, ⟨-, f0_2⟩, ⟨-, f0_3⟩, -⟩ := qF0.out; clear hb)
    obtain ⟨w3, g, hw3, hg, x1_0, x1_1, fx1_0, fx1_1, hb3⟩ := one_box w2 (.bool (decide (z < 0))) (.slice G (dig z.natAbs).length gc) 106
    rw [← hw3, ← hg]
    have W23 := Aside0.mk hb3
    have qB1 := Kn.mk (below_step qB0.out hb3); have f1_0 := kf hb3 q0_4 f0_0; have f1_1 := kf hb3 q0_5 f0_1; have f1_2 := kf hb3 q0_6 f0_2; have f1_3 := kf hb3 q0_7 f0_3; have q1_0 := kc hb3 q0_0; have q1_1 := kc hb3 q0_1; have q1_2 := kc hb3 q0_2; have q1_3 := kc hb3 q0_3; have q1_4 := kc hb3 q0_4; have q1_5 := kc hb3 q0_5; have q1_6 := kc hb3 q0_6; have q1_7 := kc hb3 q0_7; have qC1 : Kn (CL _ [⟨w.heap.size, 0, none⟩, ⟨w.heap.size, 1, none⟩, ⟨w.heap.size + 1, 0, none⟩, ⟨w.heap.size + 1, 1, none⟩, ⟨w.heap.size + 1 + 1, 0, none⟩, ⟨w.heap.size + 1 + 1, 1, none⟩, ⟨w.heap.size + 1 + 1, 2, none⟩, ⟨w.heap.size + 1 + 1, 3, none⟩] [.bool (decide (x < 0)), .slice A (dig x.natAbs).length c, .bool true, .slice D (dig y.natAbs).length d, .bool false, .slice none 0 0, .bool false, .slice none 0 0]) := ⟨cl_c q1_0 (cl_c q1_1 (cl_c q1_2 (cl_c q1_3 (cl_c q1_4 (cl_c q1_5 (cl_c q1_6 (cl_c q1_7 (cl_n _))))))))⟩; have qF1 : Kn (FZ _ [⟨w.heap.size + 1 + 1, 0, none⟩, ⟨w.heap.size + 1 + 1, 1, none⟩, ⟨w.heap.size + 1 + 1, 2, none⟩, ⟨w.heap.size + 1 + 1, 3, none⟩]) := ⟨fz_c (World.block_lt_of_cell? _ _ q1_4) f1_0 (fz_c (World.block_lt_of_cell? _ _ q1_5) f1_1 (fz_c (World.block_lt_of_cell? _ _ q1_6) f1_2 (fz_c (World.block_lt_of_cell? _ _ q1_7) f1_3 (fz_n _))))⟩
    have HG := Aside0.mk hg
    have XG := Aside0.mk (XG0.out.below hb3)
    have L2 : w.heap.size + 1 + 1 < g := by rw [hg]; exact World.block_lt_of_cell? _ _ q0_7
    clear hw3 hg hb3
    have L1 : w.heap.size + 1 < g := by omega
    have L0 : w.heap.size < g := by omega
    have M0 := Aside0.mk L0
    have M1 := Aside0.mk L1
    have M2 := Aside0.mk L2
    clear L0 L1 L2
    go_upto_region 4 with (go_at_call 79; (with_reducible refine (ropposite_any _ _ _ z XG.out).mono ?_); rintro e w5 ⟨v, rfl, hv, hb⟩; obtain ⟨z2, hz⟩ : ∃ z2 : Int, z2 = -z := ⟨_, rfl⟩; rw [← hz] at hv; have HZ2 := Aside0.mk hz; have XG5 := Aside0.mk hv; obtain ⟨G2, gc2, rfl, -⟩ := hv; clear hz; have qB2 := kn_b (w0 := w) hb; have qC2 : Kn (CL _ [⟨w.heap.size, 0, none⟩, ⟨w.heap.size, 1, none⟩, ⟨w.heap.size + 1, 0, none⟩, ⟨w.heap.size + 1, 1, none⟩, ⟨w.heap.size + 1 + 1, 0, none⟩, ⟨w.heap.size + 1 + 1, 1, none⟩, ⟨w.heap.size + 1 + 1, 2, none⟩, ⟨w.heap.size + 1 + 1, 3, none⟩] [.bool (decide (x < 0)), .slice A (dig x.natAbs).length c, .bool true, .slice D (dig y.natAbs).length d, .bool false, .slice none 0 0, .bool false, .slice none 0 0]) := kn_c hb; obtain ⟨q2_0, q2_1, q2_2, q2_3, q2_4, q2_5, q2_6, q2_7, -⟩ := qC2.out; have qF2 : Kn (FZ _ [⟨w.heap.size + 1 + 1, 0, none⟩, ⟨w.heap.size + 1 + 1, 1, none⟩, ⟨w.heap.size + 1 + 1, 2, none⟩, ⟨w.heap.size + 1 + 1, 3, none⟩]) := kn_f hb; obtain ⟨⟨-, f2_0⟩, ⟨-, f2_1⟩, ⟨-, f2_2⟩, ⟨-, f2_3⟩, -⟩ := qF2.out; have fx2_0 := kf (p := ⟨g, 0, none⟩) (v := .bool (decide (z < 0))) hb (by first | with_reducible assumption | (with_reducible refine c_low' ?_; with_reducible assumption) | (with_reducible refine c_drew ?_; with_reducible assumption) | (with_reducible refine c_drew (c_low' ?_); with_reducible assumption) | (with_reducible refine c_low' (c_low' (c_low' (?_))); with_reducible assumption) | (with_reducible refine c_drew (c_low' (c_low' (c_low' (?_)))); with_reducible assumption)) (by first | with_reducible assumption | (with_reducible refine f_new ?_; simp; done) | (with_reducible refine f_drew (f_new ?_); simp; done) | (with_reducible refine f_low ?_ (f_new ?_) <;> (simp; done)) | (with_reducible refine f_drew (f_low ?_ (f_new ?_)) <;> (simp; done)) | (with_reducible refine f_drew ?_; with_reducible assumption) | (with_reducible refine f_low (Aside0.out ?_) ?_ <;> with_reducible assumption) | (with_reducible refine f_drew (f_low (Aside0.out ?_) ?_) <;> with_reducible assumption)); have fx2_1 := kf (p := ⟨g, 1, none⟩) (v := .slice G (dig z.natAbs).length gc) hb (by first | with_reducible assumption | (with_reducible refine c_low' ?_; with_reducible assumption) | (with_reducible refine c_drew ?_; with_reducible assumption) | (with_reducible refine c_drew (c_low' ?_); with_reducible assumption) | (with_reducible refine c_low' (c_low' (c_low' (?_))); with_reducible assumption) | (with_reducible refine c_drew (c_low' (c_low' (c_low' (?_)))); with_reducible assumption)) (by first | with_reducible assumption | (with_reducible refine f_new ?_; simp; done) | (with_reducible refine f_drew (f_new ?_); simp; done) | (with_reducible refine f_low ?_ (f_new ?_) <;> (simp; done)) | (with_reducible refine f_drew (f_low ?_ (f_new ?_)) <;> (simp; done)) | (with_reducible refine f_drew ?_; with_reducible assumption) | (with_reducible refine f_low (Aside0.out ?_) ?_ <;> with_reducible assumption) | (with_reducible refine f_drew (f_low (Aside0.out ?_) ?_) <;> with_reducible assumption)); have x2_0 := kc (p := ⟨g, 0, none⟩) (v := .bool (decide (z < 0))) hb (by first | with_reducible assumption | (with_reducible refine c_low' ?_; with_reducible assumption) | (with_reducible refine c_drew ?_; with_reducible assumption) | (with_reducible refine c_drew (c_low' ?_); with_reducible assumption) | (with_reducible refine c_low' (c_low' (c_low' (?_))); with_reducible assumption) | (with_reducible refine c_drew (c_low' (c_low' (c_low' (?_)))); with_reducible assumption)); have x2_1 := kc (p := ⟨g, 1, none⟩) (v := .slice G (dig z.natAbs).length gc) hb (by first | with_reducible assumption | (with_reducible refine c_low' ?_; with_reducible assumption) | (with_reducible refine c_drew ?_; with_reducible assumption) | (with_reducible refine c_drew (c_low' ?_); with_reducible assumption) | (with_reducible refine c_low' (c_low' (c_low' (?_))); with_reducible assumption) | (with_reducible refine c_drew (c_low' (c_low' (c_low' (?_)))); with_reducible assumption)); clear hb)
    obtain ⟨w6, hw6, y0, y1, hf6, hb6, hc6, hk6⟩ := set_box w5 g _ _ (.bool (decide (z2 < 0))) (.slice G2 (dig z2.natAbs).length gc2) x2_0 x2_1
    rw [← hw6]
    have q3_0 := hc6 _ _ M0.out q2_0; have q3_1 := hc6 _ _ M0.out q2_1; have q3_2 := hc6 _ _ M1.out q2_2; have q3_3 := hc6 _ _ M1.out q2_3; have q3_4 := hc6 _ _ M2.out q2_4; have q3_5 := hc6 _ _ M2.out q2_5; have q3_6 := hc6 _ _ M2.out q2_6; have q3_7 := hc6 _ _ M2.out q2_7; have f3_0 := (hf6 _).trans f2_0; have f3_1 := (hf6 _).trans f2_1; have f3_2 := (hf6 _).trans f2_2; have f3_3 := (hf6 _).trans f2_3; have qC3 : Kn (CL _ [⟨w.heap.size, 0, none⟩, ⟨w.heap.size, 1, none⟩, ⟨w.heap.size + 1, 0, none⟩, ⟨w.heap.size + 1, 1, none⟩, ⟨w.heap.size + 1 + 1, 0, none⟩, ⟨w.heap.size + 1 + 1, 1, none⟩, ⟨w.heap.size + 1 + 1, 2, none⟩, ⟨w.heap.size + 1 + 1, 3, none⟩] [.bool (decide (x < 0)), .slice A (dig x.natAbs).length c, .bool true, .slice D (dig y.natAbs).length d, .bool false, .slice none 0 0, .bool false, .slice none 0 0]) := ⟨cl_c q3_0 (cl_c q3_1 (cl_c q3_2 (cl_c q3_3 (cl_c q3_4 (cl_c q3_5 (cl_c q3_6 (cl_c q3_7 (cl_n _))))))))⟩; have qF3 : Kn (FZ _ [⟨w.heap.size + 1 + 1, 0, none⟩, ⟨w.heap.size + 1 + 1, 1, none⟩, ⟨w.heap.size + 1 + 1, 2, none⟩, ⟨w.heap.size + 1 + 1, 3, none⟩]) := ⟨fz_c (World.block_lt_of_cell? _ _ q3_4) f3_0 (fz_c (World.block_lt_of_cell? _ _ q3_5) f3_1 (fz_c (World.block_lt_of_cell? _ _ q3_6) f3_2 (fz_c (World.block_lt_of_cell? _ _ q3_7) f3_3 (fz_n _))))⟩
    have qB3 := Kn.mk (qB2.out.trans (hb6.mono (Nat.le_of_lt M0.out)))
    have XG6 := Aside0.mk (hk6 _ _ _ XG5.out (fun h => by have := HG.out; have := h.2; omega))
    have HZ3 : Aside0 (z2 = y.sign * ((Int.gcd x y : Nat) : Int)) := ⟨by rw [HZ2.out, HZ.out, Int.sign_eq_neg_one_of_neg HYS.out]; omega⟩
    have x3_0 := y0; have x3_1 := y1
    clear y0 y1 hf6 hb6 hc6 hk6 hw6
    have LW := Aside0.mk (World.block_lt_of_cell? _ _ q3_7)
    have HZN : Aside0 (z2 ≠ 0) := ⟨by rw [HZ3.out]; exact Int.mul_ne_zero (by rw [Ne, Int.sign_eq_zero_iff_zero]; exact HY.out) (by have := Int.gcd_pos_of_ne_zero_right x HY.out; omega)⟩
    have HZB : Aside0 ((dig (Int.natAbs z2)).length ≤ 8796093022208) := ⟨Nat.le_trans (dig_len_mono (by rw [HZ3.out, Int.natAbs_mul]; exact over_small HY.out)) HN.out⟩
    go_upto_region 5 with (go_at_call 81; (with_reducible refine (rquo_bi _ _ _ _ _ x z2 (X0.out.below ?hb5) XG6.out HM.out HZB.out HZN.out).mono ?_); (case hb5 => first | exact Kn.out | with_reducible exact Aside0.out ‹_›); rintro e w7 ⟨v, u, rfl, hv, hu, hb⟩; obtain ⟨n, hn⟩ : ∃ n : Int, x.tdiv z2 = n := ⟨_, rfl⟩; obtain ⟨r, hr⟩ : ∃ r : Int, x.tmod z2 = r := ⟨_, rfl⟩; rw [hn] at hv; rw [hr] at hu; have HN1 := Aside0.mk hn; have XN := Aside0.mk hv; have XG7 := Aside0.mk (XG6.out.below hb); obtain ⟨N, nc, rfl, -⟩ := hv; obtain ⟨R, rc, rfl, -⟩ := hu; clear hn hr; have qB4 := kn_b (w0 := w) hb; have qC4 : Kn (CL _ [⟨w.heap.size, 0, none⟩, ⟨w.heap.size, 1, none⟩, ⟨w.heap.size + 1, 0, none⟩, ⟨w.heap.size + 1, 1, none⟩, ⟨w.heap.size + 1 + 1, 0, none⟩, ⟨w.heap.size + 1 + 1, 1, none⟩, ⟨w.heap.size + 1 + 1, 2, none⟩, ⟨w.heap.size + 1 + 1, 3, none⟩] [.bool (decide (x < 0)), .slice A (dig x.natAbs).length c, .bool true, .slice D (dig y.natAbs).length d, .bool false, .slice none 0 0, .bool false, .slice none 0 0]) := kn_c hb; obtain ⟨q4_0, q4_1, q4_2, q4_3, q4_4, q4_5, q4_6, q4_7, -⟩ := qC4.out; have qF4 : Kn (FZ _ [⟨w.heap.size + 1 + 1, 0, none⟩, ⟨w.heap.size + 1 + 1, 1, none⟩, ⟨w.heap.size + 1 + 1, 2, none⟩, ⟨w.heap.size + 1 + 1, 3, none⟩]) := kn_f hb; obtain ⟨⟨-, f4_0⟩, ⟨-, f4_1⟩, ⟨-, f4_2⟩, ⟨-, f4_3⟩, -⟩ := qF4.out; have x4_0 := kc (p := ⟨g, 0, none⟩) (v := .bool (decide (z2 < 0))) hb (by first | with_reducible assumption | (with_reducible refine c_low' ?_; with_reducible assumption) | (with_reducible refine c_drew ?_; with_reducible assumption) | (with_reducible refine c_drew (c_low' ?_); with_reducible assumption) | (with_reducible refine c_low' (c_low' (c_low' (?_))); with_reducible assumption) | (with_reducible refine c_drew (c_low' (c_low' (c_low' (?_)))); with_reducible assumption)); have x4_1 := kc (p := ⟨g, 1, none⟩) (v := .slice G2 (dig z2.natAbs).length gc2) hb (by first | with_reducible assumption | (with_reducible refine c_low' ?_; with_reducible assumption) | (with_reducible refine c_drew ?_; with_reducible assumption) | (with_reducible refine c_drew (c_low' ?_); with_reducible assumption) | (with_reducible refine c_low' (c_low' (c_low' (?_))); with_reducible assumption) | (with_reducible refine c_drew (c_low' (c_low' (c_low' (?_)))); with_reducible assumption)); clear hb)
    obtain ⟨w8, g1, -, hw, hg, -, y0, y1, hb⟩ := two_box w7 (.bool (decide (n < 0))) (.slice N (dig (Int.natAbs n)).length nc) (.bool (decide (r < 0))) (.slice R (dig (Int.natAbs r)).length rc) 106
    rw [← hw, ← hg]
    have qB5 := Kn.mk (below_step qB4.out hb); have f5_0 := kf hb q4_4 f4_0; have f5_1 := kf hb q4_5 f4_1; have f5_2 := kf hb q4_6 f4_2; have f5_3 := kf hb q4_7 f4_3; have q5_0 := kc hb q4_0; have q5_1 := kc hb q4_1; have q5_2 := kc hb q4_2; have q5_3 := kc hb q4_3; have q5_4 := kc hb q4_4; have q5_5 := kc hb q4_5; have q5_6 := kc hb q4_6; have q5_7 := kc hb q4_7; have x5_0 := kc hb x4_0; have x5_1 := kc hb x4_1; have qC5 : Kn (CL _ [⟨w.heap.size, 0, none⟩, ⟨w.heap.size, 1, none⟩, ⟨w.heap.size + 1, 0, none⟩, ⟨w.heap.size + 1, 1, none⟩, ⟨w.heap.size + 1 + 1, 0, none⟩, ⟨w.heap.size + 1 + 1, 1, none⟩, ⟨w.heap.size + 1 + 1, 2, none⟩, ⟨w.heap.size + 1 + 1, 3, none⟩] [.bool (decide (x < 0)), .slice A (dig x.natAbs).length c, .bool true, .slice D (dig y.natAbs).length d, .bool false, .slice none 0 0, .bool false, .slice none 0 0]) := ⟨cl_c q5_0 (cl_c q5_1 (cl_c q5_2 (cl_c q5_3 (cl_c q5_4 (cl_c q5_5 (cl_c q5_6 (cl_c q5_7 (cl_n _))))))))⟩; have qF5 : Kn (FZ _ [⟨w.heap.size + 1 + 1, 0, none⟩, ⟨w.heap.size + 1 + 1, 1, none⟩, ⟨w.heap.size + 1 + 1, 2, none⟩, ⟨w.heap.size + 1 + 1, 3, none⟩]) := ⟨fz_c (World.block_lt_of_cell? _ _ q5_4) f5_0 (fz_c (World.block_lt_of_cell? _ _ q5_5) f5_1 (fz_c (World.block_lt_of_cell? _ _ q5_6) f5_2 (fz_c (World.block_lt_of_cell? _ _ q5_7) f5_3 (fz_n _))))⟩
    have HB_w8 := Aside0.mk hb
    clear hw hg hb
    have x5_2 := y0; have x5_3 := y1
    clear y0 y1
    have XG8 := Aside0.mk (XG7.out.below HB_w8.out)
    have XN8 := Aside0.mk (XN.out.below HB_w8.out)
    have LW8 := Aside0.mk (World.block_lt_of_cell? _ _ q5_7)
    go_upto_region 6 with (go_at_call 81; (with_reducible refine (rquo_bi _ _ _ _ _ y z2 (X1.out.below ?hb6) XG8.out HN.out HZB.out HZN.out).mono ?_); (case hb6 => first | exact Kn.out | with_reducible exact Aside0.out ‹_›); rintro e w9 ⟨v, u, rfl, hv, hu, hb⟩; obtain ⟨m, hn⟩ : ∃ m : Int, y.tdiv z2 = m := ⟨_, rfl⟩; obtain ⟨r2, hr⟩ : ∃ r : Int, y.tmod z2 = r := ⟨_, rfl⟩; rw [hn] at hv; rw [hr] at hu; have HN2 := Aside0.mk hn; have XM := Aside0.mk hv; have XN9 := Aside0.mk (XN8.out.below hb); obtain ⟨M, mc, rfl, -⟩ := hv; obtain ⟨R2, rc2, rfl, -⟩ := hu; clear hn hr; have qB6 := kn_b (w0 := w) hb; have qC6 : Kn (CL _ [⟨w.heap.size, 0, none⟩, ⟨w.heap.size, 1, none⟩, ⟨w.heap.size + 1, 0, none⟩, ⟨w.heap.size + 1, 1, none⟩, ⟨w.heap.size + 1 + 1, 0, none⟩, ⟨w.heap.size + 1 + 1, 1, none⟩, ⟨w.heap.size + 1 + 1, 2, none⟩, ⟨w.heap.size + 1 + 1, 3, none⟩] [.bool (decide (x < 0)), .slice A (dig x.natAbs).length c, .bool true, .slice D (dig y.natAbs).length d, .bool false, .slice none 0 0, .bool false, .slice none 0 0]) := kn_c hb; obtain ⟨q6_0, q6_1, q6_2, q6_3, q6_4, q6_5, q6_6, q6_7, -⟩ := qC6.out; have qF6 : Kn (FZ _ [⟨w.heap.size + 1 + 1, 0, none⟩, ⟨w.heap.size + 1 + 1, 1, none⟩, ⟨w.heap.size + 1 + 1, 2, none⟩, ⟨w.heap.size + 1 + 1, 3, none⟩]) := kn_f hb; obtain ⟨⟨-, f6_0⟩, ⟨-, f6_1⟩, ⟨-, f6_2⟩, ⟨-, f6_3⟩, -⟩ := qF6.out; have x6_0 := kc (p := ⟨g, 0, none⟩) (v := .bool (decide (z2 < 0))) hb (by first | with_reducible assumption | (with_reducible refine c_low' ?_; with_reducible assumption) | (with_reducible refine c_drew ?_; with_reducible assumption) | (with_reducible refine c_drew (c_low' ?_); with_reducible assumption) | (with_reducible refine c_low' (c_low' (c_low' (?_))); with_reducible assumption) | (with_reducible refine c_drew (c_low' (c_low' (c_low' (?_)))); with_reducible assumption)); have x6_1 := kc (p := ⟨g, 1, none⟩) (v := .slice G2 (dig z2.natAbs).length gc2) hb (by first | with_reducible assumption | (with_reducible refine c_low' ?_; with_reducible assumption) | (with_reducible refine c_drew ?_; with_reducible assumption) | (with_reducible refine c_drew (c_low' ?_); with_reducible assumption) | (with_reducible refine c_low' (c_low' (c_low' (?_))); with_reducible assumption) | (with_reducible refine c_drew (c_low' (c_low' (c_low' (?_)))); with_reducible assumption)); have x6_2 := kc (p := ⟨g1, 0, none⟩) (v := (.bool (decide (n < 0)))) hb (by first | with_reducible assumption | (with_reducible refine c_low' ?_; with_reducible assumption) | (with_reducible refine c_drew ?_; with_reducible assumption) | (with_reducible refine c_drew (c_low' ?_); with_reducible assumption) | (with_reducible refine c_low' (c_low' (c_low' (?_))); with_reducible assumption) | (with_reducible refine c_drew (c_low' (c_low' (c_low' (?_)))); with_reducible assumption)); have x6_3 := kc (p := ⟨g1, 1, none⟩) (v := (.slice N (dig (Int.natAbs n)).length nc)) hb (by first | with_reducible assumption | (with_reducible refine c_low' ?_; with_reducible assumption) | (with_reducible refine c_drew ?_; with_reducible assumption) | (with_reducible refine c_drew (c_low' ?_); with_reducible assumption) | (with_reducible refine c_low' (c_low' (c_low' (?_))); with_reducible assumption) | (with_reducible refine c_drew (c_low' (c_low' (c_low' (?_)))); with_reducible assumption)); clear hb)
    obtain ⟨w10, g2, -, hw, hg, -, y0, y1, hb⟩ := two_box w9 (.bool (decide (m < 0))) (.slice M (dig (Int.natAbs m)).length mc) (.bool (decide (r2 < 0))) (.slice R2 (dig (Int.natAbs r2)).length rc2) 106
    rw [← hw, ← hg]
    have qB7 := Kn.mk (below_step qB6.out hb); have f7_0 := kf hb q6_4 f6_0; have f7_1 := kf hb q6_5 f6_1; have f7_2 := kf hb q6_6 f6_2; have f7_3 := kf hb q6_7 f6_3; have q7_0 := kc hb q6_0; have q7_1 := kc hb q6_1; have q7_2 := kc hb q6_2; have q7_3 := kc hb q6_3; have q7_4 := kc hb q6_4; have q7_5 := kc hb q6_5; have q7_6 := kc hb q6_6; have q7_7 := kc hb q6_7; have x7_0 := kc hb x6_0; have x7_1 := kc hb x6_1; have x7_2 := kc hb x6_2; have x7_3 := kc hb x6_3; have qC7 : Kn (CL _ [⟨w.heap.size, 0, none⟩, ⟨w.heap.size, 1, none⟩, ⟨w.heap.size + 1, 0, none⟩, ⟨w.heap.size + 1, 1, none⟩, ⟨w.heap.size + 1 + 1, 0, none⟩, ⟨w.heap.size + 1 + 1, 1, none⟩, ⟨w.heap.size + 1 + 1, 2, none⟩, ⟨w.heap.size + 1 + 1, 3, none⟩] [.bool (decide (x < 0)), .slice A (dig x.natAbs).length c, .bool true, .slice D (dig y.natAbs).length d, .bool false, .slice none 0 0, .bool false, .slice none 0 0]) := ⟨cl_c q7_0 (cl_c q7_1 (cl_c q7_2 (cl_c q7_3 (cl_c q7_4 (cl_c q7_5 (cl_c q7_6 (cl_c q7_7 (cl_n _))))))))⟩; have qF7 : Kn (FZ _ [⟨w.heap.size + 1 + 1, 0, none⟩, ⟨w.heap.size + 1 + 1, 1, none⟩, ⟨w.heap.size + 1 + 1, 2, none⟩, ⟨w.heap.size + 1 + 1, 3, none⟩]) := ⟨fz_c (World.block_lt_of_cell? _ _ q7_4) f7_0 (fz_c (World.block_lt_of_cell? _ _ q7_5) f7_1 (fz_c (World.block_lt_of_cell? _ _ q7_6) f7_2 (fz_c (World.block_lt_of_cell? _ _ q7_7) f7_3 (fz_n _))))⟩
    have HB_w10 := Aside0.mk hb
    clear hw hg hb
    have x7_4 := y0; have x7_5 := y1
    clear y0 y1
    have XN10 := Aside0.mk (XN9.out.below HB_w10.out)
    have XM10 := Aside0.mk (XM.out.below HB_w10.out)
    go_wp2
    have hN : (Rat.divInt x y).num = n := by rw [ratio_num HY.out, ← HZ3.out]; exact HN1.out
    have hM : ((Rat.divInt x y).den : Int) = m := by rw [ratio_den HY.out, ← HZ3.out]; exact HN2.out
    refine bodyPost_ret (v := .agg #[(.bool (decide (n < 0))), (.slice N (dig (Int.natAbs n)).length nc), (.bool (decide (m < 0))), (.slice M (dig (Int.natAbs m)).length mc)]) (by simp [results, Try.results64, go_sem, q7_4, q7_5, q7_6, q7_7]) rfl ⟨_, rfl, ⟨N, M, nc, mc, n, m, rfl, ?_, ?_, hN, hM⟩, ?_⟩
    · exact ((((XN10.out.set' (p := ⟨w.heap.size + 1 + 1, 0, none⟩) (Nat.not_le.2 LW.out) _).set' (p := ⟨w.heap.size + 1 + 1, 1, none⟩) (Nat.not_le.2 LW.out) _).set' (p := ⟨w.heap.size + 1 + 1, 2, none⟩) (Nat.not_le.2 LW.out) _).set' (p := ⟨w.heap.size + 1 + 1, 3, none⟩) (Nat.not_le.2 LW.out) _).mono fun k hk => Nat.le_trans (Nat.le_of_lt (Nat.lt_of_le_of_lt (le_two _) LW.out)) hk
    · exact ((((XM10.out.set' (p := ⟨w.heap.size + 1 + 1, 0, none⟩) (Nat.not_le.2 LW8.out) _).set' (p := ⟨w.heap.size + 1 + 1, 1, none⟩) (Nat.not_le.2 LW8.out) _).set' (p := ⟨w.heap.size + 1 + 1, 2, none⟩) (Nat.not_le.2 LW8.out) _).set' (p := ⟨w.heap.size + 1 + 1, 3, none⟩) (Nat.not_le.2 LW8.out) _).mono fun k hk => Nat.le_trans (Nat.le_of_lt (Nat.lt_of_le_of_lt (le_two _) LW8.out)) hk
    · exact below_set (below_set (below_set (below_set qB7.out (le_two _)) (le_two _)) (le_two _)) (le_two _)
  | false =>
    have HYS := Aside0.mk (of_decide_eq_false hsb)
    clear hsb
    go_enter Try.func64, Try.ntmps64
    go_upto_region 2 with (go_at_call 80; (with_reducible refine (rcommon_any _ _ _ _ x y (X0.out.below ?hb2) (X1.out.below ?hb2) HM.out HN.out).mono ?_); (case hb2 => first | exact Kn.out | with_reducible exact Aside0.out ‹_›); rintro e w2 ⟨v, rfl, hv, hb⟩; obtain ⟨z, hz⟩ : ∃ z : Int, z = ((Int.gcd x y : Nat) : Int) := ⟨_, rfl⟩; rw [← hz] at hv; have HZ := Aside0.mk hz; have XG0 := Aside0.mk hv.low; obtain ⟨G, gc, rfl, -⟩ := hv; have W12 := Aside0.mk hb; clear hz; have qB0 := kn_b (w0 := w) hb; have qC0 : Kn (CL _ [⟨w.heap.size, 0, none⟩, ⟨w.heap.size, 1, none⟩, ⟨w.heap.size + 1, 0, none⟩, ⟨w.heap.size + 1, 1, none⟩, ⟨w.heap.size + 1 + 1, 0, none⟩, ⟨w.heap.size + 1 + 1, 1, none⟩, ⟨w.heap.size + 1 + 1, 2, none⟩, ⟨w.heap.size + 1 + 1, 3, none⟩] [.bool (decide (x < 0)), .slice A (dig x.natAbs).length c, .bool false, .slice D (dig y.natAbs).length d, .bool false, .slice none 0 0, .bool false, .slice none 0 0]) := kn_c hb; obtain ⟨q0_0, q0_1, q0_2, q0_3, q0_4, q0_5, q0_6, q0_7, -⟩ := qC0.out; have qF0 : Kn (FZ _ [⟨w.heap.size + 1 + 1, 0, none⟩, ⟨w.heap.size + 1 + 1, 1, none⟩, ⟨w.heap.size + 1 + 1, 2, none⟩, ⟨w.heap.size + 1 + 1, 3, none⟩]) := kn_f hb; obtain ⟨⟨-, f0_0⟩, ⟨-, f0_1⟩, ⟨-, f0_2⟩, ⟨-, f0_3⟩, -⟩ := qF0.out; clear hb)
    obtain ⟨w3, g, hw3, hg, x1_0, x1_1, fx1_0, fx1_1, hb3⟩ := one_box w2 (.bool (decide (z < 0))) (.slice G (dig z.natAbs).length gc) 106
    rw [← hw3, ← hg]
    have W23 := Aside0.mk hb3
    have qB1 := Kn.mk (below_step qB0.out hb3); have f1_0 := kf hb3 q0_4 f0_0; have f1_1 := kf hb3 q0_5 f0_1; have f1_2 := kf hb3 q0_6 f0_2; have f1_3 := kf hb3 q0_7 f0_3; have q1_0 := kc hb3 q0_0; have q1_1 := kc hb3 q0_1; have q1_2 := kc hb3 q0_2; have q1_3 := kc hb3 q0_3; have q1_4 := kc hb3 q0_4; have q1_5 := kc hb3 q0_5; have q1_6 := kc hb3 q0_6; have q1_7 := kc hb3 q0_7; have qC1 : Kn (CL _ [⟨w.heap.size, 0, none⟩, ⟨w.heap.size, 1, none⟩, ⟨w.heap.size + 1, 0, none⟩, ⟨w.heap.size + 1, 1, none⟩, ⟨w.heap.size + 1 + 1, 0, none⟩, ⟨w.heap.size + 1 + 1, 1, none⟩, ⟨w.heap.size + 1 + 1, 2, none⟩, ⟨w.heap.size + 1 + 1, 3, none⟩] [.bool (decide (x < 0)), .slice A (dig x.natAbs).length c, .bool false, .slice D (dig y.natAbs).length d, .bool false, .slice none 0 0, .bool false, .slice none 0 0]) := ⟨cl_c q1_0 (cl_c q1_1 (cl_c q1_2 (cl_c q1_3 (cl_c q1_4 (cl_c q1_5 (cl_c q1_6 (cl_c q1_7 (cl_n _))))))))⟩; have qF1 : Kn (FZ _ [⟨w.heap.size + 1 + 1, 0, none⟩, ⟨w.heap.size + 1 + 1, 1, none⟩, ⟨w.heap.size + 1 + 1, 2, none⟩, ⟨w.heap.size + 1 + 1, 3, none⟩]) := ⟨fz_c (World.block_lt_of_cell? _ _ q1_4) f1_0 (fz_c (World.block_lt_of_cell? _ _ q1_5) f1_1 (fz_c (World.block_lt_of_cell? _ _ q1_6) f1_2 (fz_c (World.block_lt_of_cell? _ _ q1_7) f1_3 (fz_n _))))⟩
    have HG := Aside0.mk hg
    have XG := Aside0.mk (XG0.out.below hb3)
    have L2 : w.heap.size + 1 + 1 < g := by rw [hg]; exact World.block_lt_of_cell? _ _ q0_7
    clear hw3 hg hb3
    have L1 : w.heap.size + 1 < g := by omega
    have L0 : w.heap.size < g := by omega
    have M0 := Aside0.mk L0
    have M1 := Aside0.mk L1
    have M2 := Aside0.mk L2
    clear L0 L1 L2
    go_upto_region 4 with (fail)
    have XG6 := XG
    have HZ3 : Aside0 (z = y.sign * ((Int.gcd x y : Nat) : Int)) := ⟨by rw [HZ.out, Int.sign_eq_one_of_pos (by have := HYS.out; have := HY.out; omega), Int.one_mul]⟩
    have LW := Aside0.mk (World.block_lt_of_cell? _ _ q1_7)
    have HZN : Aside0 (z ≠ 0) := ⟨by rw [HZ3.out]; exact Int.mul_ne_zero (by rw [Ne, Int.sign_eq_zero_iff_zero]; exact HY.out) (by have := Int.gcd_pos_of_ne_zero_right x HY.out; omega)⟩
    have HZB : Aside0 ((dig (Int.natAbs z)).length ≤ 8796093022208) := ⟨Nat.le_trans (dig_len_mono (by rw [HZ3.out, Int.natAbs_mul]; exact over_small HY.out)) HN.out⟩
    go_upto_region 5 with (go_at_call 81; (with_reducible refine (rquo_bi _ _ _ _ _ x z (X0.out.below ?hb5) XG6.out HM.out HZB.out HZN.out).mono ?_); (case hb5 => first | exact Kn.out | with_reducible exact Aside0.out ‹_›); rintro e w7 ⟨v, u, rfl, hv, hu, hb⟩; obtain ⟨n, hn⟩ : ∃ n : Int, x.tdiv z = n := ⟨_, rfl⟩; obtain ⟨r, hr⟩ : ∃ r : Int, x.tmod z = r := ⟨_, rfl⟩; rw [hn] at hv; rw [hr] at hu; have HN1 := Aside0.mk hn; have XN := Aside0.mk hv; have XG7 := Aside0.mk (XG6.out.below hb); obtain ⟨N, nc, rfl, -⟩ := hv; obtain ⟨R, rc, rfl, -⟩ := hu; clear hn hr; have qB2 := kn_b (w0 := w) hb; have qC2 : Kn (CL _ [⟨w.heap.size, 0, none⟩, ⟨w.heap.size, 1, none⟩, ⟨w.heap.size + 1, 0, none⟩, ⟨w.heap.size + 1, 1, none⟩, ⟨w.heap.size + 1 + 1, 0, none⟩, ⟨w.heap.size + 1 + 1, 1, none⟩, ⟨w.heap.size + 1 + 1, 2, none⟩, ⟨w.heap.size + 1 + 1, 3, none⟩] [.bool (decide (x < 0)), .slice A (dig x.natAbs).length c, .bool false, .slice D (dig y.natAbs).length d, .bool false, .slice none 0 0, .bool false, .slice none 0 0]) := kn_c hb; obtain ⟨q2_0, q2_1, q2_2, q2_3, q2_4, q2_5, q2_6, q2_7, -⟩ := qC2.out; have qF2 : Kn (FZ _ [⟨w.heap.size + 1 + 1, 0, none⟩, ⟨w.heap.size + 1 + 1, 1, none⟩, ⟨w.heap.size + 1 + 1, 2, none⟩, ⟨w.heap.size + 1 + 1, 3, none⟩]) := kn_f hb; obtain ⟨⟨-, f2_0⟩, ⟨-, f2_1⟩, ⟨-, f2_2⟩, ⟨-, f2_3⟩, -⟩ := qF2.out; have x2_0 := kc (p := ⟨g, 0, none⟩) (v := .bool (decide (z < 0))) hb (by first | with_reducible assumption | (with_reducible refine c_low' ?_; with_reducible assumption) | (with_reducible refine c_drew ?_; with_reducible assumption) | (with_reducible refine c_drew (c_low' ?_); with_reducible assumption) | (with_reducible refine c_low' (c_low' (c_low' (?_))); with_reducible assumption) | (with_reducible refine c_drew (c_low' (c_low' (c_low' (?_)))); with_reducible assumption)); have x2_1 := kc (p := ⟨g, 1, none⟩) (v := .slice G (dig z.natAbs).length gc) hb (by first | with_reducible assumption | (with_reducible refine c_low' ?_; with_reducible assumption) | (with_reducible refine c_drew ?_; with_reducible assumption) | (with_reducible refine c_drew (c_low' ?_); with_reducible assumption) | (with_reducible refine c_low' (c_low' (c_low' (?_))); with_reducible assumption) | (with_reducible refine c_drew (c_low' (c_low' (c_low' (?_)))); with_reducible assumption)); clear hb)
    obtain ⟨w8, g1, -, hw, hg, -, y0, y1, hb⟩ := two_box w7 (.bool (decide (n < 0))) (.slice N (dig (Int.natAbs n)).length nc) (.bool (decide (r < 0))) (.slice R (dig (Int.natAbs r)).length rc) 106
    rw [← hw, ← hg]
    have qB3 := Kn.mk (below_step qB2.out hb); have f3_0 := kf hb q2_4 f2_0; have f3_1 := kf hb q2_5 f2_1; have f3_2 := kf hb q2_6 f2_2; have f3_3 := kf hb q2_7 f2_3; have q3_0 := kc hb q2_0; have q3_1 := kc hb q2_1; have q3_2 := kc hb q2_2; have q3_3 := kc hb q2_3; have q3_4 := kc hb q2_4; have q3_5 := kc hb q2_5; have q3_6 := kc hb q2_6; have q3_7 := kc hb q2_7; have x3_0 := kc hb x2_0; have x3_1 := kc hb x2_1; have qC3 : Kn (CL _ [⟨w.heap.size, 0, none⟩, ⟨w.heap.size, 1, none⟩, ⟨w.heap.size + 1, 0, none⟩, ⟨w.heap.size + 1, 1, none⟩, ⟨w.heap.size + 1 + 1, 0, none⟩, ⟨w.heap.size + 1 + 1, 1, none⟩, ⟨w.heap.size + 1 + 1, 2, none⟩, ⟨w.heap.size + 1 + 1, 3, none⟩] [.bool (decide (x < 0)), .slice A (dig x.natAbs).length c, .bool false, .slice D (dig y.natAbs).length d, .bool false, .slice none 0 0, .bool false, .slice none 0 0]) := ⟨cl_c q3_0 (cl_c q3_1 (cl_c q3_2 (cl_c q3_3 (cl_c q3_4 (cl_c q3_5 (cl_c q3_6 (cl_c q3_7 (cl_n _))))))))⟩; have qF3 : Kn (FZ _ [⟨w.heap.size + 1 + 1, 0, none⟩, ⟨w.heap.size + 1 + 1, 1, none⟩, ⟨w.heap.size + 1 + 1, 2, none⟩, ⟨w.heap.size + 1 + 1, 3, none⟩]) := ⟨fz_c (World.block_lt_of_cell? _ _ q3_4) f3_0 (fz_c (World.block_lt_of_cell? _ _ q3_5) f3_1 (fz_c (World.block_lt_of_cell? _ _ q3_6) f3_2 (fz_c (World.block_lt_of_cell? _ _ q3_7) f3_3 (fz_n _))))⟩
    have HB_w8 := Aside0.mk hb
    clear hw hg hb
    have x3_2 := y0; have x3_3 := y1
    clear y0 y1
    have XG8 := Aside0.mk (XG7.out.below HB_w8.out)
    have XN8 := Aside0.mk (XN.out.below HB_w8.out)
    have LW8 := Aside0.mk (World.block_lt_of_cell? _ _ q3_7)
    go_upto_region 6 with (go_at_call 81; (with_reducible refine (rquo_bi _ _ _ _ _ y z (X1.out.below ?hb6) XG8.out HN.out HZB.out HZN.out).mono ?_); (case hb6 => first | exact Kn.out | with_reducible exact Aside0.out ‹_›); rintro e w9 ⟨v, u, rfl, hv, hu, hb⟩; obtain ⟨m, hn⟩ : ∃ m : Int, y.tdiv z = m := ⟨_, rfl⟩; obtain ⟨r2, hr⟩ : ∃ r : Int, y.tmod z = r := ⟨_, rfl⟩; rw [hn] at hv; rw [hr] at hu; have HN2 := Aside0.mk hn; have XM := Aside0.mk hv; have XN9 := Aside0.mk (XN8.out.below hb); obtain ⟨M, mc, rfl, -⟩ := hv; obtain ⟨R2, rc2, rfl, -⟩ := hu; clear hn hr; have qB4 := kn_b (w0 := w) hb; have qC4 : Kn (CL _ [⟨w.heap.size, 0, none⟩, ⟨w.heap.size, 1, none⟩, ⟨w.heap.size + 1, 0, none⟩, ⟨w.heap.size + 1, 1, none⟩, ⟨w.heap.size + 1 + 1, 0, none⟩, ⟨w.heap.size + 1 + 1, 1, none⟩, ⟨w.heap.size + 1 + 1, 2, none⟩, ⟨w.heap.size + 1 + 1, 3, none⟩] [.bool (decide (x < 0)), .slice A (dig x.natAbs).length c, .bool false, .slice D (dig y.natAbs).length d, .bool false, .slice none 0 0, .bool false, .slice none 0 0]) := kn_c hb; obtain ⟨q4_0, q4_1, q4_2, q4_3, q4_4, q4_5, q4_6, q4_7, -⟩ := qC4.out; have qF4 : Kn (FZ _ [⟨w.heap.size + 1 + 1, 0, none⟩, ⟨w.heap.size + 1 + 1, 1, none⟩, ⟨w.heap.size + 1 + 1, 2, none⟩, ⟨w.heap.size + 1 + 1, 3, none⟩]) := kn_f hb; obtain ⟨⟨-, f4_0⟩, ⟨-, f4_1⟩, ⟨-, f4_2⟩, ⟨-, f4_3⟩, -⟩ := qF4.out; have x4_0 := kc (p := ⟨g, 0, none⟩) (v := .bool (decide (z < 0))) hb (by first | with_reducible assumption | (with_reducible refine c_low' ?_; with_reducible assumption) | (with_reducible refine c_drew ?_; with_reducible assumption) | (with_reducible refine c_drew (c_low' ?_); with_reducible assumption) | (with_reducible refine c_low' (c_low' (c_low' (?_))); with_reducible assumption) | (with_reducible refine c_drew (c_low' (c_low' (c_low' (?_)))); with_reducible assumption)); have x4_1 := kc (p := ⟨g, 1, none⟩) (v := .slice G (dig z.natAbs).length gc) hb (by first | with_reducible assumption | (with_reducible refine c_low' ?_; with_reducible assumption) | (with_reducible refine c_drew ?_; with_reducible assumption) | (with_reducible refine c_drew (c_low' ?_); with_reducible assumption) | (with_reducible refine c_low' (c_low' (c_low' (?_))); with_reducible assumption) | (with_reducible refine c_drew (c_low' (c_low' (c_low' (?_)))); with_reducible assumption)); have x4_2 := kc (p := ⟨g1, 0, none⟩) (v := (.bool (decide (n < 0)))) hb (by first | with_reducible assumption | (with_reducible refine c_low' ?_; with_reducible assumption) | (with_reducible refine c_drew ?_; with_reducible assumption) | (with_reducible refine c_drew (c_low' ?_); with_reducible assumption) | (with_reducible refine c_low' (c_low' (c_low' (?_))); with_reducible assumption) | (with_reducible refine c_drew (c_low' (c_low' (c_low' (?_)))); with_reducible assumption)); have x4_3 := kc (p := ⟨g1, 1, none⟩) (v := (.slice N (dig (Int.natAbs n)).length nc)) hb (by first | with_reducible assumption | (with_reducible refine c_low' ?_; with_reducible assumption) | (with_reducible refine c_drew ?_; with_reducible assumption) | (with_reducible refine c_drew (c_low' ?_); with_reducible assumption) | (with_reducible refine c_low' (c_low' (c_low' (?_))); with_reducible assumption) | (with_reducible refine c_drew (c_low' (c_low' (c_low' (?_)))); with_reducible assumption)); clear hb)
    obtain ⟨w10, g2, -, hw, hg, -, y0, y1, hb⟩ := two_box w9 (.bool (decide (m < 0))) (.slice M (dig (Int.natAbs m)).length mc) (.bool (decide (r2 < 0))) (.slice R2 (dig (Int.natAbs r2)).length rc2) 106
    rw [← hw, ← hg]
    have qB5 := Kn.mk (below_step qB4.out hb); have f5_0 := kf hb q4_4 f4_0; have f5_1 := kf hb q4_5 f4_1; have f5_2 := kf hb q4_6 f4_2; have f5_3 := kf hb q4_7 f4_3; have q5_0 := kc hb q4_0; have q5_1 := kc hb q4_1; have q5_2 := kc hb q4_2; have q5_3 := kc hb q4_3; have q5_4 := kc hb q4_4; have q5_5 := kc hb q4_5; have q5_6 := kc hb q4_6; have q5_7 := kc hb q4_7; have x5_0 := kc hb x4_0; have x5_1 := kc hb x4_1; have x5_2 := kc hb x4_2; have x5_3 := kc hb x4_3; have qC5 : Kn (CL _ [⟨w.heap.size, 0, none⟩, ⟨w.heap.size, 1, none⟩, ⟨w.heap.size + 1, 0, none⟩, ⟨w.heap.size + 1, 1, none⟩, ⟨w.heap.size + 1 + 1, 0, none⟩, ⟨w.heap.size + 1 + 1, 1, none⟩, ⟨w.heap.size + 1 + 1, 2, none⟩, ⟨w.heap.size + 1 + 1, 3, none⟩] [.bool (decide (x < 0)), .slice A (dig x.natAbs).length c, .bool false, .slice D (dig y.natAbs).length d, .bool false, .slice none 0 0, .bool false, .slice none 0 0]) := ⟨cl_c q5_0 (cl_c q5_1 (cl_c q5_2 (cl_c q5_3 (cl_c q5_4 (cl_c q5_5 (cl_c q5_6 (cl_c q5_7 (cl_n _))))))))⟩; have qF5 : Kn (FZ _ [⟨w.heap.size + 1 + 1, 0, none⟩, ⟨w.heap.size + 1 + 1, 1, none⟩, ⟨w.heap.size + 1 + 1, 2, none⟩, ⟨w.heap.size + 1 + 1, 3, none⟩]) := ⟨fz_c (World.block_lt_of_cell? _ _ q5_4) f5_0 (fz_c (World.block_lt_of_cell? _ _ q5_5) f5_1 (fz_c (World.block_lt_of_cell? _ _ q5_6) f5_2 (fz_c (World.block_lt_of_cell? _ _ q5_7) f5_3 (fz_n _))))⟩
    have HB_w10 := Aside0.mk hb
    clear hw hg hb
    have x5_4 := y0; have x5_5 := y1
    clear y0 y1
    have XN10 := Aside0.mk (XN9.out.below HB_w10.out)
    have XM10 := Aside0.mk (XM.out.below HB_w10.out)
    go_wp2
    have hN : (Rat.divInt x y).num = n := by rw [ratio_num HY.out, ← HZ3.out]; exact HN1.out
    have hM : ((Rat.divInt x y).den : Int) = m := by rw [ratio_den HY.out, ← HZ3.out]; exact HN2.out
    refine bodyPost_ret (v := .agg #[(.bool (decide (n < 0))), (.slice N (dig (Int.natAbs n)).length nc), (.bool (decide (m < 0))), (.slice M (dig (Int.natAbs m)).length mc)]) (by simp [results, Try.results64, go_sem, q5_4, q5_5, q5_6, q5_7]) rfl ⟨_, rfl, ⟨N, M, nc, mc, n, m, rfl, ?_, ?_, hN, hM⟩, ?_⟩
    · exact ((((XN10.out.set' (p := ⟨w.heap.size + 1 + 1, 0, none⟩) (Nat.not_le.2 LW.out) _).set' (p := ⟨w.heap.size + 1 + 1, 1, none⟩) (Nat.not_le.2 LW.out) _).set' (p := ⟨w.heap.size + 1 + 1, 2, none⟩) (Nat.not_le.2 LW.out) _).set' (p := ⟨w.heap.size + 1 + 1, 3, none⟩) (Nat.not_le.2 LW.out) _).mono fun k hk => Nat.le_trans (Nat.le_of_lt (Nat.lt_of_le_of_lt (le_two _) LW.out)) hk
    · exact ((((XM10.out.set' (p := ⟨w.heap.size + 1 + 1, 0, none⟩) (Nat.not_le.2 LW8.out) _).set' (p := ⟨w.heap.size + 1 + 1, 1, none⟩) (Nat.not_le.2 LW8.out) _).set' (p := ⟨w.heap.size + 1 + 1, 2, none⟩) (Nat.not_le.2 LW8.out) _).set' (p := ⟨w.heap.size + 1 + 1, 3, none⟩) (Nat.not_le.2 LW8.out) _).mono fun k hk => Nat.le_trans (Nat.le_of_lt (Nat.lt_of_le_of_lt (le_two _) LW8.out)) hk
    · exact below_set (below_set (below_set (below_set qB5.out (le_two _)) (le_two _)) (le_two _)) (le_two _)
theorem rover_any (w : World) (P : Nat → Prop) (u v : Value) (x y : Int) (h0 : BI w P u x) (h1 : BI w P v y) (hm : (dig x.natAbs).length ≤ 8796093022208) (hn : (dig y.natAbs).length ≤ 8796093022208) (hy : y ≠ 0) :
    Calls Try.prog 64 #[u, v] w fun e w' => ∃ v, e = .returned v ∧ RF w' (fun k => w.heap.size ≤ k) v (Rat.divInt x y) ∧ Below w.heap.size w w' := by
  have h0' := h0
  have h1' := h1
  obtain ⟨A, c, rfl, hc, hw, ho⟩ := h0
  obtain ⟨B, d, rfl, hd, hv, hp⟩ := h1
  exact rover_raw w P x y A B c d h0' h1' hm hn hy
end Go.Proofs.Ytlaidcoickeihaa.Nb
namespace Go.Proofs.Ytlaidcoickeihaa.Nb
open Go.RowKit Go.Proofs.Ytlaidcoickeihaa.Wd.PrintWords Go.Proofs.Ytlaidcoickeihaa.Wd.PrintLast Go.Proofs.Ytlaidcoickeihaa.Wd.PrintMore Go.Proofs.Ytlaidcoickeihaa.Big
set_option synthInstance.maxSize 2000
set_option synthInstance.maxHeartbeats 400000
def RFit (q : Rat) : Prop := (dig q.num.natAbs).length ≤ 4000000000000 ∧ (dig q.den).length ≤ 4000000000000
theorem RParts.fit {w : World} {ok : Nat → Prop} {q : Rat} {A B : Option Addr} {c d : Nat} {n dd : Int} (h : RParts w ok q A B c d n dd) (hf : RFit q) : (dig n.natAbs).length ≤ 4000000000000 ∧ (dig dd.natAbs).length ≤ 4000000000000 := by
  obtain ⟨h1, h2, rfl, rfl⟩ := h
  exact ⟨hf.1, by rw [Int.natAbs_natCast]; exact hf.2⟩
theorem RParts.den0 {w : World} {ok : Nat → Prop} {q : Rat} {A B : Option Addr} {c d : Nat} {n dd : Int} (h : RParts w ok q A B c d n dd) : dd ≠ 0 := by
  rw [← h.isden]; have := q.den_nz; omega
set_option maxHeartbeats 4000000 in
set_option maxRecDepth 100000 in
theorem rsum_any (w : World) (P Q : Nat → Prop) (u v : Value) (p q : Rat) (h0 : RF w P u p) (h1 : RF w Q v q) (hfp : RFit p) (hfq : RFit q) :
    Calls Try.prog 62 #[u, v] w fun e w' => ∃ u, e = .returned u ∧ RF w' (fun k => w.heap.size ≤ k) u (p + q) ∧ Below w.heap.size w w' := by
  obtain ⟨A, D, c, d, n, dd, rfl, hp⟩ := h0.low
  obtain ⟨E, F, e1, f1, m, ee, rfl, hp2⟩ := h1.low
  have HP := Aside0.mk hp
  have HQ := Aside0.mk hp2
  have FP := Aside0.mk (hp.fit hfp)
  have FQ := Aside0.mk (hp2.fit hfq)
  have LL := Aside0.mk (fun (k : Nat) (h : k ≤ 4000000000000) => (by omega : k ≤ 35184372088832))
  have hpq := fadd_val p q
  rw [hp.isden, hp2.isden, hp.isnum, hp2.isnum] at hpq
  have HPQ := Aside0.mk hpq
  have HD1 := Aside0.mk hp.den0
  have HD2 := Aside0.mk hp2.den0
  clear h0 h1 hp hp2 hpq hfp hfq
  go_enter Try.func62, Try.ntmps62
  go_wp2
  go_region_held3 (fun W => W.cell? ⟨w.heap.size, 0, none⟩ = some (.bool (decide (n < 0))) ∧ W.cell? ⟨w.heap.size, 1, none⟩ = some (.slice A (dig n.natAbs).length c) ∧ W.cell? ⟨w.heap.size, 2, none⟩ = some (.bool (decide (dd < 0))) ∧ W.cell? ⟨w.heap.size, 3, none⟩ = some (.slice D (dig dd.natAbs).length d) ∧ W.cell? ⟨w.heap.size + 1, 0, none⟩ = some (.bool (decide (m < 0))) ∧ W.cell? ⟨w.heap.size + 1, 1, none⟩ = some (.slice E (dig m.natAbs).length e1) ∧ W.cell? ⟨w.heap.size + 1, 2, none⟩ = some (.bool (decide (ee < 0))) ∧ W.cell? ⟨w.heap.size + 1, 3, none⟩ = some (.slice F (dig ee.natAbs).length f1) ∧ Kn (Below w.heap.size w W)) (((repeat' apply And.intro) <;> first | with_reducible assumption | exact Kn.out | infer_instance | ((try (with_reducible refine c_drew ?_)); (repeat' (first | with_reducible refine kset Kn.out ?_ | with_reducible refine kset ‹_› ?_ | with_reducible refine c_low' ?_)); with_reducible assumption))) ((first | (go_at_call 78; (with_reducible refine (rtimes_any _ _ _ _ _ n ee (HP.out.num.below ?hb3) (HQ.out.den.below ?hb3) (LL.out _ FP.out.1) (LL.out _ FQ.out.2)).mono ?_); (try (case hb3 => first | exact Kn.out | with_reducible exact Aside0.out ‹_›)); rintro e w3 ⟨v, rfl, hv, hb⟩; obtain ⟨t1, hz⟩ : ∃ z : Int, z = n * ee := ⟨_, rfl⟩; rw [← hz] at hv; have Ht1 := Aside0.mk hz; have Xt1 := Aside0.mk hv; clear hz; have qB0 := kn_b (w0 := w) hb; have qC0 : Kn (CL _ [⟨w.heap.size, 0, none⟩, ⟨w.heap.size, 1, none⟩, ⟨w.heap.size, 2, none⟩, ⟨w.heap.size, 3, none⟩, ⟨w.heap.size + 1, 0, none⟩, ⟨w.heap.size + 1, 1, none⟩, ⟨w.heap.size + 1, 2, none⟩, ⟨w.heap.size + 1, 3, none⟩, ⟨w.heap.size + 1 + 1, 0, none⟩, ⟨w.heap.size + 1 + 1, 1, none⟩, ⟨w.heap.size + 1 + 1, 2, none⟩, ⟨w.heap.size + 1 + 1, 3, none⟩] [.bool (decide (n < 0)), .slice A (dig n.natAbs).length c, .bool (decide (dd < 0)), .slice D (dig dd.natAbs).length d, .bool (decide (m < 0)), .slice E (dig m.natAbs).length e1, .bool (decide (ee < 0)), .slice F (dig ee.natAbs).length f1, .bool false, .slice none 0 0, .bool false, .slice none 0 0]) := kn_c hb; obtain ⟨q0_0, q0_1, q0_2, q0_3, q0_4, q0_5, q0_6, q0_7, q0_8, q0_9, q0_10, q0_11, -⟩ := qC0.out; have qF0 : Kn (FZ _ [⟨w.heap.size + 1 + 1, 0, none⟩, ⟨w.heap.size + 1 + 1, 1, none⟩, ⟨w.heap.size + 1 + 1, 2, none⟩, ⟨w.heap.size + 1 + 1, 3, none⟩]) := kn_f hb; obtain ⟨⟨-, f0_0⟩, ⟨-, f0_1⟩, ⟨-, f0_2⟩, ⟨-, f0_3⟩, -⟩ := qF0.out; clear hb) | (go_at_call 78; (with_reducible refine (rtimes_any _ _ _ _ _ m dd (HQ.out.num.below ?hb4) (HP.out.den.below ?hb4) (LL.out _ FQ.out.1) (LL.out _ FP.out.2)).mono ?_); (try (case hb4 => first | exact Kn.out | with_reducible exact Aside0.out ‹_›)); rintro e w4 ⟨v, rfl, hv, hb⟩; obtain ⟨t2, hz⟩ : ∃ z : Int, z = m * dd := ⟨_, rfl⟩; rw [← hz] at hv; have Ht2 := Aside0.mk hz; have Xt2 := Aside0.mk hv; clear hz; have Xt1 := Aside0.mk (Xt1.out.below hb); have qB1 := kn_b (w0 := w) hb; have qC1 : Kn (CL _ [⟨w.heap.size, 0, none⟩, ⟨w.heap.size, 1, none⟩, ⟨w.heap.size, 2, none⟩, ⟨w.heap.size, 3, none⟩, ⟨w.heap.size + 1, 0, none⟩, ⟨w.heap.size + 1, 1, none⟩, ⟨w.heap.size + 1, 2, none⟩, ⟨w.heap.size + 1, 3, none⟩, ⟨w.heap.size + 1 + 1, 0, none⟩, ⟨w.heap.size + 1 + 1, 1, none⟩, ⟨w.heap.size + 1 + 1, 2, none⟩, ⟨w.heap.size + 1 + 1, 3, none⟩] [.bool (decide (n < 0)), .slice A (dig n.natAbs).length c, .bool (decide (dd < 0)), .slice D (dig dd.natAbs).length d, .bool (decide (m < 0)), .slice E (dig m.natAbs).length e1, .bool (decide (ee < 0)), .slice F (dig ee.natAbs).length f1, .bool false, .slice none 0 0, .bool false, .slice none 0 0]) := kn_c hb; obtain ⟨q1_0, q1_1, q1_2, q1_3, q1_4, q1_5, q1_6, q1_7, q1_8, q1_9, q1_10, q1_11, -⟩ := qC1.out; have qF1 : Kn (FZ _ [⟨w.heap.size + 1 + 1, 0, none⟩, ⟨w.heap.size + 1 + 1, 1, none⟩, ⟨w.heap.size + 1 + 1, 2, none⟩, ⟨w.heap.size + 1 + 1, 3, none⟩]) := kn_f hb; obtain ⟨⟨-, f1_0⟩, ⟨-, f1_1⟩, ⟨-, f1_2⟩, ⟨-, f1_3⟩, -⟩ := qF1.out; clear hb) | (go_at_call 77; (with_reducible refine (rplus_any _ _ _ _ _ t1 t2 (Xt1.out) (Xt2.out) (by have := imul_len n ee _ _ FP.out.1 FQ.out.2; rw [Ht1.out]; omega) (by have := imul_len m dd _ _ FQ.out.1 FP.out.2; rw [Ht2.out]; omega)).mono ?_); (try (case hb5 => first | exact Kn.out | with_reducible exact Aside0.out ‹_›)); rintro e w5 ⟨v, rfl, hv, hb⟩; obtain ⟨t3, hz⟩ : ∃ z : Int, z = t1 + t2 := ⟨_, rfl⟩; rw [← hz] at hv; have Ht3 := Aside0.mk hz; have Xt3 := Aside0.mk hv; clear hz; have qB2 := kn_b (w0 := w) hb; have qC2 : Kn (CL _ [⟨w.heap.size, 0, none⟩, ⟨w.heap.size, 1, none⟩, ⟨w.heap.size, 2, none⟩, ⟨w.heap.size, 3, none⟩, ⟨w.heap.size + 1, 0, none⟩, ⟨w.heap.size + 1, 1, none⟩, ⟨w.heap.size + 1, 2, none⟩, ⟨w.heap.size + 1, 3, none⟩, ⟨w.heap.size + 1 + 1, 0, none⟩, ⟨w.heap.size + 1 + 1, 1, none⟩, ⟨w.heap.size + 1 + 1, 2, none⟩, ⟨w.heap.size + 1 + 1, 3, none⟩] [.bool (decide (n < 0)), .slice A (dig n.natAbs).length c, .bool (decide (dd < 0)), .slice D (dig dd.natAbs).length d, .bool (decide (m < 0)), .slice E (dig m.natAbs).length e1, .bool (decide (ee < 0)), .slice F (dig ee.natAbs).length f1, .bool false, .slice none 0 0, .bool false, .slice none 0 0]) := kn_c hb; obtain ⟨q2_0, q2_1, q2_2, q2_3, q2_4, q2_5, q2_6, q2_7, q2_8, q2_9, q2_10, q2_11, -⟩ := qC2.out; have qF2 : Kn (FZ _ [⟨w.heap.size + 1 + 1, 0, none⟩, ⟨w.heap.size + 1 + 1, 1, none⟩, ⟨w.heap.size + 1 + 1, 2, none⟩, ⟨w.heap.size + 1 + 1, 3, none⟩]) := kn_f hb; obtain ⟨⟨-, f2_0⟩, ⟨-, f2_1⟩, ⟨-, f2_2⟩, ⟨-, f2_3⟩, -⟩ := qF2.out; clear hb) | (go_at_call 78; (with_reducible refine (rtimes_any _ _ _ _ _ dd ee (HP.out.den.below ?hb6) (HQ.out.den.below ?hb6) (LL.out _ FP.out.2) (LL.out _ FQ.out.2)).mono ?_); (try (case hb6 => first | exact Kn.out | with_reducible exact Aside0.out ‹_›)); rintro e w6 ⟨v, rfl, hv, hb⟩; obtain ⟨t4, hz⟩ : ∃ z : Int, z = dd * ee := ⟨_, rfl⟩; rw [← hz] at hv; have Ht4 := Aside0.mk hz; have Xt4 := Aside0.mk hv; clear hz; have Xt3 := Aside0.mk (Xt3.out.below hb); have qB3 := kn_b (w0 := w) hb; have qC3 : Kn (CL _ [⟨w.heap.size, 0, none⟩, ⟨w.heap.size, 1, none⟩, ⟨w.heap.size, 2, none⟩, ⟨w.heap.size, 3, none⟩, ⟨w.heap.size + 1, 0, none⟩, ⟨w.heap.size + 1, 1, none⟩, ⟨w.heap.size + 1, 2, none⟩, ⟨w.heap.size + 1, 3, none⟩, ⟨w.heap.size + 1 + 1, 0, none⟩, ⟨w.heap.size + 1 + 1, 1, none⟩, ⟨w.heap.size + 1 + 1, 2, none⟩, ⟨w.heap.size + 1 + 1, 3, none⟩] [.bool (decide (n < 0)), .slice A (dig n.natAbs).length c, .bool (decide (dd < 0)), .slice D (dig dd.natAbs).length d, .bool (decide (m < 0)), .slice E (dig m.natAbs).length e1, .bool (decide (ee < 0)), .slice F (dig ee.natAbs).length f1, .bool false, .slice none 0 0, .bool false, .slice none 0 0]) := kn_c hb; obtain ⟨q3_0, q3_1, q3_2, q3_3, q3_4, q3_5, q3_6, q3_7, q3_8, q3_9, q3_10, q3_11, -⟩ := qC3.out; have qF3 : Kn (FZ _ [⟨w.heap.size + 1 + 1, 0, none⟩, ⟨w.heap.size + 1 + 1, 1, none⟩, ⟨w.heap.size + 1 + 1, 2, none⟩, ⟨w.heap.size + 1 + 1, 3, none⟩]) := kn_f hb; obtain ⟨⟨-, f3_0⟩, ⟨-, f3_1⟩, ⟨-, f3_2⟩, ⟨-, f3_3⟩, -⟩ := qF3.out; clear hb) | (go_at_call 64; (with_reducible refine (rover_any _ (fun _ => True) _ _ t3 t4 ((Xt3.out.mono fun _ _ => trivial)) ((Xt4.out.mono fun _ _ => trivial)) (by have h1 := imul_len n ee _ _ FP.out.1 FQ.out.2; have h2 := imul_len m dd _ _ FQ.out.1 FP.out.2; rw [← Ht1.out] at h1; rw [← Ht2.out] at h2; have h3 := iadd_len t1 t2 _ h1 h2; rw [Ht3.out]; omega) (by have := imul_len dd ee _ _ FP.out.2 FQ.out.2; rw [Ht4.out]; omega) (by rw [Ht4.out]; exact Int.mul_ne_zero HD1.out HD2.out)).mono ?_); rintro e w7 ⟨v, rfl, hv, hb⟩; obtain ⟨r, hz⟩ : ∃ z : Rat, z = Rat.divInt t3 t4 := ⟨_, rfl⟩; rw [← hz] at hv; have Hr := Aside0.mk hz; obtain ⟨G, I, g1, i1, rn, rd, rfl, hr⟩ := hv; have XR := Aside0.mk hr; clear hz hr; have qB4 := kn_b (w0 := w) hb; have qC4 : Kn (CL _ [⟨w.heap.size, 0, none⟩, ⟨w.heap.size, 1, none⟩, ⟨w.heap.size, 2, none⟩, ⟨w.heap.size, 3, none⟩, ⟨w.heap.size + 1, 0, none⟩, ⟨w.heap.size + 1, 1, none⟩, ⟨w.heap.size + 1, 2, none⟩, ⟨w.heap.size + 1, 3, none⟩, ⟨w.heap.size + 1 + 1, 0, none⟩, ⟨w.heap.size + 1 + 1, 1, none⟩, ⟨w.heap.size + 1 + 1, 2, none⟩, ⟨w.heap.size + 1 + 1, 3, none⟩] [.bool (decide (n < 0)), .slice A (dig n.natAbs).length c, .bool (decide (dd < 0)), .slice D (dig dd.natAbs).length d, .bool (decide (m < 0)), .slice E (dig m.natAbs).length e1, .bool (decide (ee < 0)), .slice F (dig ee.natAbs).length f1, .bool false, .slice none 0 0, .bool false, .slice none 0 0]) := kn_c hb; obtain ⟨q4_0, q4_1, q4_2, q4_3, q4_4, q4_5, q4_6, q4_7, q4_8, q4_9, q4_10, q4_11, -⟩ := qC4.out; have qF4 : Kn (FZ _ [⟨w.heap.size + 1 + 1, 0, none⟩, ⟨w.heap.size + 1 + 1, 1, none⟩, ⟨w.heap.size + 1 + 1, 2, none⟩, ⟨w.heap.size + 1 + 1, 3, none⟩]) := kn_f hb; obtain ⟨⟨-, f4_0⟩, ⟨-, f4_1⟩, ⟨-, f4_2⟩, ⟨-, f4_3⟩, -⟩ := qF4.out; clear hb)))
  go_wp2
  have hr : r = p + q := by rw [Hr.out, HPQ.out, Ht3.out, Ht1.out, Ht2.out, Ht4.out]
  have hsz := World.block_lt_of_cell? _ _ q3_11
  rw [← hr]
  refine bodyPost_ret (v := .agg #[.bool (decide (rn < 0)), .slice G (dig rn.natAbs).length g1, .bool (decide (rd < 0)), .slice I (dig rd.natAbs).length i1]) (by simp [results, Try.results62, go_sem, q4_8, q4_9, q4_10, q4_11]) rfl ⟨_, rfl, ⟨_, _, _, _, _, _, rfl, ?_⟩, below_set4 qB4.out (le_two _) _ _ _ _⟩
  exact (XR.out.set4 (g := w.heap.size + 1 + 1) (Nat.not_le.2 hsz) _ _ _ _).mono fun k hk => (Nat.le_trans (Nat.le_of_lt (Nat.lt_of_le_of_lt (le_two _) hsz)) hk)
set_option maxHeartbeats 4000000 in
set_option maxRecDepth 100000 in
theorem rproduct_any (w : World) (P Q : Nat → Prop) (u v : Value) (p q : Rat) (h0 : RF w P u p) (h1 : RF w Q v q) (hfp : RFit p) (hfq : RFit q) :
    Calls Try.prog 67 #[u, v] w fun e w' => ∃ u, e = .returned u ∧ RF w' (fun k => w.heap.size ≤ k) u (p * q) ∧ Below w.heap.size w w' := by
  obtain ⟨A, D, c, d, n, dd, rfl, hp⟩ := h0.low
  obtain ⟨E, F, e1, f1, m, ee, rfl, hp2⟩ := h1.low
  have HP := Aside0.mk hp
  have HQ := Aside0.mk hp2
  have FP := Aside0.mk (hp.fit hfp)
  have FQ := Aside0.mk (hp2.fit hfq)
  have LL := Aside0.mk (fun (k : Nat) (h : k ≤ 4000000000000) => (by omega : k ≤ 35184372088832))
  have hpq := fmul_val p q
  rw [hp.isden, hp2.isden, hp.isnum, hp2.isnum] at hpq
  have HPQ := Aside0.mk hpq
  have HD1 := Aside0.mk hp.den0
  have HD2 := Aside0.mk hp2.den0
  clear h0 h1 hp hp2 hpq hfp hfq
  go_enter Try.func67, Try.ntmps67
  go_wp2
  go_region_held3 (fun W => W.cell? ⟨w.heap.size, 0, none⟩ = some (.bool (decide (n < 0))) ∧ W.cell? ⟨w.heap.size, 1, none⟩ = some (.slice A (dig n.natAbs).length c) ∧ W.cell? ⟨w.heap.size, 2, none⟩ = some (.bool (decide (dd < 0))) ∧ W.cell? ⟨w.heap.size, 3, none⟩ = some (.slice D (dig dd.natAbs).length d) ∧ W.cell? ⟨w.heap.size + 1, 0, none⟩ = some (.bool (decide (m < 0))) ∧ W.cell? ⟨w.heap.size + 1, 1, none⟩ = some (.slice E (dig m.natAbs).length e1) ∧ W.cell? ⟨w.heap.size + 1, 2, none⟩ = some (.bool (decide (ee < 0))) ∧ W.cell? ⟨w.heap.size + 1, 3, none⟩ = some (.slice F (dig ee.natAbs).length f1) ∧ Kn (Below w.heap.size w W)) (((repeat' apply And.intro) <;> first | with_reducible assumption | exact Kn.out | infer_instance | ((try (with_reducible refine c_drew ?_)); (repeat' (first | with_reducible refine kset Kn.out ?_ | with_reducible refine kset ‹_› ?_ | with_reducible refine c_low' ?_)); with_reducible assumption))) ((first | (go_at_call 78; (with_reducible refine (rtimes_any _ _ _ _ _ n m (HP.out.num.below ?hb3) (HQ.out.num.below ?hb3) (LL.out _ FP.out.1) (LL.out _ FQ.out.1)).mono ?_); (try (case hb3 => first | exact Kn.out | with_reducible exact Aside0.out ‹_›)); rintro e w3 ⟨v, rfl, hv, hb⟩; obtain ⟨t1, hz⟩ : ∃ z : Int, z = n * m := ⟨_, rfl⟩; rw [← hz] at hv; have Ht1 := Aside0.mk hz; have Xt1 := Aside0.mk hv; clear hz; have qB0 := kn_b (w0 := w) hb; have qC0 : Kn (CL _ [⟨w.heap.size, 0, none⟩, ⟨w.heap.size, 1, none⟩, ⟨w.heap.size, 2, none⟩, ⟨w.heap.size, 3, none⟩, ⟨w.heap.size + 1, 0, none⟩, ⟨w.heap.size + 1, 1, none⟩, ⟨w.heap.size + 1, 2, none⟩, ⟨w.heap.size + 1, 3, none⟩, ⟨w.heap.size + 1 + 1, 0, none⟩, ⟨w.heap.size + 1 + 1, 1, none⟩, ⟨w.heap.size + 1 + 1, 2, none⟩, ⟨w.heap.size + 1 + 1, 3, none⟩] [.bool (decide (n < 0)), .slice A (dig n.natAbs).length c, .bool (decide (dd < 0)), .slice D (dig dd.natAbs).length d, .bool (decide (m < 0)), .slice E (dig m.natAbs).length e1, .bool (decide (ee < 0)), .slice F (dig ee.natAbs).length f1, .bool false, .slice none 0 0, .bool false, .slice none 0 0]) := kn_c hb; obtain ⟨q0_0, q0_1, q0_2, q0_3, q0_4, q0_5, q0_6, q0_7, q0_8, q0_9, q0_10, q0_11, -⟩ := qC0.out; have qF0 : Kn (FZ _ [⟨w.heap.size + 1 + 1, 0, none⟩, ⟨w.heap.size + 1 + 1, 1, none⟩, ⟨w.heap.size + 1 + 1, 2, none⟩, ⟨w.heap.size + 1 + 1, 3, none⟩]) := kn_f hb; obtain ⟨⟨-, f0_0⟩, ⟨-, f0_1⟩, ⟨-, f0_2⟩, ⟨-, f0_3⟩, -⟩ := qF0.out; clear hb) | (go_at_call 78; (with_reducible refine (rtimes_any _ _ _ _ _ dd ee (HP.out.den.below ?hb4) (HQ.out.den.below ?hb4) (LL.out _ FP.out.2) (LL.out _ FQ.out.2)).mono ?_); (try (case hb4 => first | exact Kn.out | with_reducible exact Aside0.out ‹_›)); rintro e w4 ⟨v, rfl, hv, hb⟩; obtain ⟨t2, hz⟩ : ∃ z : Int, z = dd * ee := ⟨_, rfl⟩; rw [← hz] at hv; have Ht2 := Aside0.mk hz; have Xt2 := Aside0.mk hv; clear hz; have Xt1 := Aside0.mk (Xt1.out.below hb); have qB1 := kn_b (w0 := w) hb; have qC1 : Kn (CL _ [⟨w.heap.size, 0, none⟩, ⟨w.heap.size, 1, none⟩, ⟨w.heap.size, 2, none⟩, ⟨w.heap.size, 3, none⟩, ⟨w.heap.size + 1, 0, none⟩, ⟨w.heap.size + 1, 1, none⟩, ⟨w.heap.size + 1, 2, none⟩, ⟨w.heap.size + 1, 3, none⟩, ⟨w.heap.size + 1 + 1, 0, none⟩, ⟨w.heap.size + 1 + 1, 1, none⟩, ⟨w.heap.size + 1 + 1, 2, none⟩, ⟨w.heap.size + 1 + 1, 3, none⟩] [.bool (decide (n < 0)), .slice A (dig n.natAbs).length c, .bool (decide (dd < 0)), .slice D (dig dd.natAbs).length d, .bool (decide (m < 0)), .slice E (dig m.natAbs).length e1, .bool (decide (ee < 0)), .slice F (dig ee.natAbs).length f1, .bool false, .slice none 0 0, .bool false, .slice none 0 0]) := kn_c hb; obtain ⟨q1_0, q1_1, q1_2, q1_3, q1_4, q1_5, q1_6, q1_7, q1_8, q1_9, q1_10, q1_11, -⟩ := qC1.out; have qF1 : Kn (FZ _ [⟨w.heap.size + 1 + 1, 0, none⟩, ⟨w.heap.size + 1 + 1, 1, none⟩, ⟨w.heap.size + 1 + 1, 2, none⟩, ⟨w.heap.size + 1 + 1, 3, none⟩]) := kn_f hb; obtain ⟨⟨-, f1_0⟩, ⟨-, f1_1⟩, ⟨-, f1_2⟩, ⟨-, f1_3⟩, -⟩ := qF1.out; clear hb) | (go_at_call 64; (with_reducible refine (rover_any _ (fun _ => True) _ _ t1 t2 ((Xt1.out.mono fun _ _ => trivial)) ((Xt2.out.mono fun _ _ => trivial)) (by have h1 := imul_len n m _ _ FP.out.1 FQ.out.1; rw [Ht1.out]; omega) (by have h1 := imul_len dd ee _ _ FP.out.2 FQ.out.2; rw [Ht2.out]; omega) (by rw [Ht2.out]; exact Int.mul_ne_zero HD1.out HD2.out)).mono ?_); rintro e w5 ⟨v, rfl, hv, hb⟩; obtain ⟨r, hz⟩ : ∃ z : Rat, z = Rat.divInt t1 t2 := ⟨_, rfl⟩; rw [← hz] at hv; have Hr := Aside0.mk hz; obtain ⟨G, I, g1, i1, rn, rd, rfl, hr⟩ := hv; have XR := Aside0.mk hr; clear hz hr; have qB2 := kn_b (w0 := w) hb; have qC2 : Kn (CL _ [⟨w.heap.size, 0, none⟩, ⟨w.heap.size, 1, none⟩, ⟨w.heap.size, 2, none⟩, ⟨w.heap.size, 3, none⟩, ⟨w.heap.size + 1, 0, none⟩, ⟨w.heap.size + 1, 1, none⟩, ⟨w.heap.size + 1, 2, none⟩, ⟨w.heap.size + 1, 3, none⟩, ⟨w.heap.size + 1 + 1, 0, none⟩, ⟨w.heap.size + 1 + 1, 1, none⟩, ⟨w.heap.size + 1 + 1, 2, none⟩, ⟨w.heap.size + 1 + 1, 3, none⟩] [.bool (decide (n < 0)), .slice A (dig n.natAbs).length c, .bool (decide (dd < 0)), .slice D (dig dd.natAbs).length d, .bool (decide (m < 0)), .slice E (dig m.natAbs).length e1, .bool (decide (ee < 0)), .slice F (dig ee.natAbs).length f1, .bool false, .slice none 0 0, .bool false, .slice none 0 0]) := kn_c hb; obtain ⟨q2_0, q2_1, q2_2, q2_3, q2_4, q2_5, q2_6, q2_7, q2_8, q2_9, q2_10, q2_11, -⟩ := qC2.out; have qF2 : Kn (FZ _ [⟨w.heap.size + 1 + 1, 0, none⟩, ⟨w.heap.size + 1 + 1, 1, none⟩, ⟨w.heap.size + 1 + 1, 2, none⟩, ⟨w.heap.size + 1 + 1, 3, none⟩]) := kn_f hb; obtain ⟨⟨-, f2_0⟩, ⟨-, f2_1⟩, ⟨-, f2_2⟩, ⟨-, f2_3⟩, -⟩ := qF2.out; clear hb)))
  go_wp2
  have hr : r = p * q := by rw [Hr.out, HPQ.out, Ht1.out, Ht2.out]
  have hsz := World.block_lt_of_cell? _ _ q1_11
  rw [← hr]
  refine bodyPost_ret (v := .agg #[.bool (decide (rn < 0)), .slice G (dig rn.natAbs).length g1, .bool (decide (rd < 0)), .slice I (dig rd.natAbs).length i1]) (by simp [results, Try.results67, go_sem, q2_8, q2_9, q2_10, q2_11]) rfl ⟨_, rfl, ⟨_, _, _, _, _, _, rfl, ?_⟩, below_set4 qB2.out (le_two _) _ _ _ _⟩
  exact (XR.out.set4 (g := w.heap.size + 1 + 1) (Nat.not_le.2 hsz) _ _ _ _).mono fun k hk => (Nat.le_trans (Nat.le_of_lt (Nat.lt_of_le_of_lt (le_two _) hsz)) hk)
end Go.Proofs.Ytlaidcoickeihaa.Nb
namespace Go.Proofs.Ytlaidcoickeihaa.Nb
open Go.RowKit Go.Proofs.Ytlaidcoickeihaa.Wd.PrintWords Go.Proofs.Ytlaidcoickeihaa.Wd.PrintLast Go.Proofs.Ytlaidcoickeihaa.Wd.PrintMore Go.Proofs.Ytlaidcoickeihaa.Big
set_option synthInstance.maxSize 2000
set_option synthInstance.maxHeartbeats 400000
theorem neg_parts (q : Rat) : (-q).num = -q.num ∧ (-q).den = q.den := ⟨rfl, rfl⟩
set_option maxHeartbeats 4000000 in
set_option maxRecDepth 100000 in
theorem rless_any (w : World) (P : Nat → Prop) (u : Value) (p : Rat) (h0 : RF w P u p) :
    Calls Try.prog 63 #[u] w fun e w' => ∃ u, e = .returned u ∧ RF w' P u (-p) ∧ Below w.heap.size w w' := by
  obtain ⟨A, D, c, d, n, dd, rfl, hp⟩ := h0.low
  have HP := Aside0.mk hp
  have HN1 := Aside0.mk ((neg_parts p).1.trans (by rw [hp.isnum]) : (-p).num = -n)
  have HN2 := Aside0.mk ((by rw [(neg_parts p).2]; exact hp.isden) : ((-p).den : Int) = dd)
  clear h0 hp
  go_enter Try.func63, Try.ntmps63
  go_wp2
  go_region_held3 (fun W => W.cell? ⟨w.heap.size, 0, none⟩ = some (.bool (decide (n < 0))) ∧ W.cell? ⟨w.heap.size, 1, none⟩ = some (.slice A (dig n.natAbs).length c) ∧ W.cell? ⟨w.heap.size, 2, none⟩ = some (.bool (decide (dd < 0))) ∧ W.cell? ⟨w.heap.size, 3, none⟩ = some (.slice D (dig dd.natAbs).length d) ∧ Kn (Below w.heap.size w W)) (((repeat' apply And.intro) <;> first | with_reducible assumption | exact Kn.out | infer_instance | ((try (with_reducible refine c_drew ?_)); (repeat' (first | with_reducible refine kset Kn.out ?_ | with_reducible refine kset ‹_› ?_ | with_reducible refine c_low' ?_)); with_reducible assumption))) ((first | (go_at_call 79; (with_reducible refine (ropposite_any _ _ _ n (HP.out.num.below ?hb1)).mono ?_); (case hb1 => first | exact Kn.out | with_reducible exact Aside0.out ‹_›); rintro e w1 ⟨v, rfl, hv, hb⟩; obtain ⟨z, hz⟩ : ∃ z : Int, z = -n := ⟨_, rfl⟩; rw [← hz] at hv; have HZ := Aside0.mk hz; have XV := Aside0.mk hv; obtain ⟨G, g1, rfl, -⟩ := hv; clear hz; have qB0 := kn_b (w0 := w) hb; have qC0 : Kn (CL _ [⟨w.heap.size, 0, none⟩, ⟨w.heap.size, 1, none⟩, ⟨w.heap.size, 2, none⟩, ⟨w.heap.size, 3, none⟩, ⟨w.heap.size + 1, 0, none⟩, ⟨w.heap.size + 1, 1, none⟩, ⟨w.heap.size + 1, 2, none⟩, ⟨w.heap.size + 1, 3, none⟩] [.bool (decide (n < 0)), .slice A (dig n.natAbs).length c, .bool (decide (dd < 0)), .slice D (dig dd.natAbs).length d, .bool false, .slice none 0 0, .bool false, .slice none 0 0]) := kn_c hb; obtain ⟨q0_0, q0_1, q0_2, q0_3, q0_4, q0_5, q0_6, q0_7, -⟩ := qC0.out; have qF0 : Kn (FZ _ [⟨w.heap.size + 1, 0, none⟩, ⟨w.heap.size + 1, 1, none⟩, ⟨w.heap.size + 1, 2, none⟩, ⟨w.heap.size + 1, 3, none⟩]) := kn_f hb; obtain ⟨⟨-, f0_0⟩, ⟨-, f0_1⟩, ⟨-, f0_2⟩, ⟨-, f0_3⟩, -⟩ := qF0.out; clear hb)))
  go_wp2
  refine bodyPost_ret (v := .agg #[.bool (decide (z < 0)), .slice G (dig z.natAbs).length g1, .bool (decide (dd < 0)), .slice D (dig dd.natAbs).length d]) (by simp [results, Try.results63, go_sem, q0_4, q0_5, q0_6, q0_7]) rfl ⟨_, rfl, ⟨_, _, _, _, _, _, rfl, ?_⟩, below_set4 qB0.out (Nat.le_succ _) _ _ _ _⟩
  have hR : RParts w1 (fun k => P k ∧ k < w.heap.size) (-p) G D g1 d z dd := ⟨XV.out, HP.out.den.below qB0.out, HN1.out.trans HZ.out.symm, HN2.out⟩
  exact (hR.set4 (g := w.heap.size + 1) (not_low (Nat.le_succ _)) _ _ _ _).mono fun k hk => hk.1
def RIsCalls (isq : Int → Int → Bool) : Prop := ∀ (w : World) (n d : Int), (-9223372036854775808 ≤ n ∧ n ≤ 9223372036854775807) → (-9223372036854775808 ≤ d ∧ d ≤ 9223372036854775807) →
  Calls Try.prog 37 #[.agg #[.int .i64 n, .int .i64 d]] w fun e w' => e = .returned (.bool (isq n d)) ∧ Below w.heap.size w w'
theorem ris_by {isq : Int → Int → Bool} (h : RIsCalls isq) (w : World) (n d : Int) (hn : -9223372036854775808 ≤ n ∧ n ≤ 9223372036854775807) (hd : -9223372036854775808 ≤ d ∧ d ≤ 9223372036854775807) (b : Bool) (hb : isq n d = b) :
  Calls Try.prog 37 #[.agg #[.int .i64 n, .int .i64 d]] w fun e w' => e = .returned (.bool b) ∧ Below w.heap.size w w' := hb ▸ h w n d hn hd
set_option maxHeartbeats 4000000 in
set_option maxRecDepth 100000 in
theorem rfrom_no (isq : Int → Int → Bool) (hi : RIsCalls isq) (w : World) (n d : Int) (hn : -9223372036854775808 ≤ n ∧ n ≤ 9223372036854775807) (hd : -9223372036854775808 ≤ d ∧ d ≤ 9223372036854775807) (h : isq n d = false) :
    Calls Try.prog 61 #[.agg #[.int .i64 n, .int .i64 d]] w fun e w' => ∃ u, e = .returned u ∧ RF w' (fun k => w.heap.size ≤ k) u (ofQ isq n d) ∧ Below w.heap.size w w' := by
  have h0 : ofQ isq n d = 0 := by unfold ofQ; rw [if_neg (by rw [h]; decide)]
  have QN : Aside0 ((ofQ isq n d).num = 0) := ⟨by rw [h0]; rfl⟩
  have QD : Aside0 (((ofQ isq n d).den : Int) = 1) := ⟨by rw [h0]; rfl⟩
  have HI := Aside0.mk hi
  have HN := Aside0.mk hn
  have HD := Aside0.mk hd
  have HH := Aside0.mk h
  have Z0 : Aside0 ((-9223372036854775808 : Int) ≤ 0 ∧ (0 : Int) ≤ 9223372036854775807) := ⟨by omega⟩
  have Z1 : Aside0 ((-9223372036854775808 : Int) ≤ 1 ∧ (1 : Int) ≤ 9223372036854775807) := ⟨by omega⟩
  clear hi hn hd h h0
  go_enter Try.func61, Try.ntmps61
  go_upto_region 2 with (go_at_call 37; (with_reducible refine (ris_by HI.out _ n d HN.out HD.out false HH.out).mono ?_); rintro e w1 ⟨rfl, hb⟩; have qB0 := kn_b (w0 := w) hb; have qC0 : Kn (CL _ [⟨w.heap.size, 0, none⟩, ⟨w.heap.size, 1, none⟩, ⟨w.heap.size + 1, 0, none⟩, ⟨w.heap.size + 1, 1, none⟩, ⟨w.heap.size + 1, 2, none⟩, ⟨w.heap.size + 1, 3, none⟩] [.int .i64 n, .int .i64 d, .bool false, .slice none 0 0, .bool false, .slice none 0 0]) := kn_c hb; obtain ⟨q0_0, q0_1, q0_2, q0_3, q0_4, q0_5, -⟩ := qC0.out; have qF0 : Kn (FZ _ [⟨w.heap.size + 1, 0, none⟩, ⟨w.heap.size + 1, 1, none⟩, ⟨w.heap.size + 1, 2, none⟩, ⟨w.heap.size + 1, 3, none⟩]) := kn_f hb; obtain ⟨⟨-, f0_0⟩, ⟨-, f0_1⟩, ⟨-, f0_2⟩, ⟨-, f0_3⟩, -⟩ := qF0.out; clear hb)
  go_wp2_with (first | (go_at_call 65; (with_reducible refine (rof_any w1 0 Z0.out).mono ?_); rintro e w2 ⟨v, rfl, hv, hb⟩; have XN := Aside0.mk hv; obtain ⟨A, c, rfl, -⟩ := hv; have qB1 := kn_b (w0 := w) hb; have qC1 : Kn (CL _ [⟨w.heap.size, 0, none⟩, ⟨w.heap.size, 1, none⟩, ⟨w.heap.size + 1, 0, none⟩, ⟨w.heap.size + 1, 1, none⟩, ⟨w.heap.size + 1, 2, none⟩, ⟨w.heap.size + 1, 3, none⟩] [.int .i64 n, .int .i64 d, .bool false, .slice none 0 0, .bool false, .slice none 0 0]) := kn_c hb; obtain ⟨q1_0, q1_1, q1_2, q1_3, q1_4, q1_5, -⟩ := qC1.out; have qF1 : Kn (FZ _ [⟨w.heap.size + 1, 0, none⟩, ⟨w.heap.size + 1, 1, none⟩, ⟨w.heap.size + 1, 2, none⟩, ⟨w.heap.size + 1, 3, none⟩]) := kn_f hb; obtain ⟨⟨-, f1_0⟩, ⟨-, f1_1⟩, ⟨-, f1_2⟩, ⟨-, f1_3⟩, -⟩ := qF1.out; clear hb) | (go_at_call 65; (with_reducible refine (rof_any w2 1 Z1.out).mono ?_); rintro e w3 ⟨v, rfl, hv, hb⟩; have XN3 := Aside0.mk (XN.out.below hb); have XD := Aside0.mk hv; obtain ⟨D, e1, rfl, -⟩ := hv; have qB2 := kn_b (w0 := w) hb; have qC2 : Kn (CL _ [⟨w.heap.size, 0, none⟩, ⟨w.heap.size, 1, none⟩, ⟨w.heap.size + 1, 0, none⟩, ⟨w.heap.size + 1, 1, none⟩, ⟨w.heap.size + 1, 2, none⟩, ⟨w.heap.size + 1, 3, none⟩] [.int .i64 n, .int .i64 d, .bool false, .slice none 0 0, .bool false, .slice none 0 0]) := kn_c hb; obtain ⟨q2_0, q2_1, q2_2, q2_3, q2_4, q2_5, -⟩ := qC2.out; have qF2 : Kn (FZ _ [⟨w.heap.size + 1, 0, none⟩, ⟨w.heap.size + 1, 1, none⟩, ⟨w.heap.size + 1, 2, none⟩, ⟨w.heap.size + 1, 3, none⟩]) := kn_f hb; obtain ⟨⟨-, f2_0⟩, ⟨-, f2_1⟩, ⟨-, f2_2⟩, ⟨-, f2_3⟩, -⟩ := qF2.out; clear hb))
  have hsz1 : w.heap.size + 1 < w1.heap.size := World.block_lt_of_cell? _ _ q0_5
  have hsz2 : w.heap.size + 1 < w2.heap.size := World.block_lt_of_cell? _ _ q1_5
  refine bodyPost_ret (v := .agg #[.bool (decide ((0 : Int) < 0)), .slice A (dig (Int.natAbs 0)).length c, .bool (decide ((1 : Int) < 0)), .slice D (dig (Int.natAbs 1)).length e1]) (by simp [results, Try.results61, go_sem, q2_2, q2_3, q2_4, q2_5]) rfl ⟨_, rfl, ⟨_, _, _, _, _, _, rfl, ?_⟩, below_set4 qB2.out (Nat.le_succ _) _ _ _ _⟩
  have HPart : RParts w3 (fun k => w.heap.size + 2 ≤ k) (ofQ isq n d) A D c e1 0 1 := ⟨XN3.out.mono fun k (hk : w1.heap.size ≤ k) => by omega, XD.out.mono fun k (hk : w2.heap.size ≤ k) => by omega, QN.out, QD.out⟩
  exact (HPart.set4 (g := w.heap.size + 1) (by omega) _ _ _ _).mono fun k hk => by omega
set_option maxHeartbeats 4000000 in
set_option maxRecDepth 100000 in
theorem rfrom_yes (isq : Int → Int → Bool) (hi : RIsCalls isq) (hg : IsGood isq) (w : World) (n d : Int) (hn : -9223372036854775808 ≤ n ∧ n ≤ 9223372036854775807) (hd : -9223372036854775808 ≤ d ∧ d ≤ 9223372036854775807) (h : isq n d = true) :
    Calls Try.prog 61 #[.agg #[.int .i64 n, .int .i64 d]] w fun e w' => ∃ u, e = .returned u ∧ RF w' (fun k => w.heap.size ≤ k) u (ofQ isq n d) ∧ Below w.heap.size w w' := by
  have HI := Aside0.mk hi
  have HN := Aside0.mk hn
  have HD := Aside0.mk hd
  have HH := Aside0.mk h
  have QN := Aside0.mk (ofQ_num hg h)
  have QD := Aside0.mk (ofQ_den hg h)
  clear hi hn hd hg h
  go_enter Try.func61, Try.ntmps61
  go_upto_region 3 with (go_at_call 37; (with_reducible refine (ris_by HI.out _ n d HN.out HD.out true HH.out).mono ?_); rintro e w1 ⟨rfl, hb⟩; have qB0 := kn_b (w0 := w) hb; have qC0 : Kn (CL _ [⟨w.heap.size, 0, none⟩, ⟨w.heap.size, 1, none⟩, ⟨w.heap.size + 1, 0, none⟩, ⟨w.heap.size + 1, 1, none⟩, ⟨w.heap.size + 1, 2, none⟩, ⟨w.heap.size + 1, 3, none⟩] [.int .i64 n, .int .i64 d, .bool false, .slice none 0 0, .bool false, .slice none 0 0]) := kn_c hb; obtain ⟨q0_0, q0_1, q0_2, q0_3, q0_4, q0_5, -⟩ := qC0.out; have qF0 : Kn (FZ _ [⟨w.heap.size + 1, 0, none⟩, ⟨w.heap.size + 1, 1, none⟩, ⟨w.heap.size + 1, 2, none⟩, ⟨w.heap.size + 1, 3, none⟩]) := kn_f hb; obtain ⟨⟨-, f0_0⟩, ⟨-, f0_1⟩, ⟨-, f0_2⟩, ⟨-, f0_3⟩, -⟩ := qF0.out; clear hb)
  go_region_held3 (fun W => W.cell? ⟨w.heap.size, 0, none⟩ = some (.int .i64 n) ∧ W.cell? ⟨w.heap.size, 1, none⟩ = some (.int .i64 d) ∧ Kn (Below w.heap.size w W)) (((repeat' apply And.intro) <;> first | with_reducible assumption | exact Kn.out | infer_instance | ((try (with_reducible refine c_drew ?_)); (repeat' (first | with_reducible refine kset Kn.out ?_ | with_reducible refine kset ‹_› ?_ | with_reducible refine c_low' ?_)); with_reducible assumption))) ((first | (go_at_call 65; (with_reducible refine (rof_any _ n HN.out).mono ?_); rintro e w2 ⟨v, rfl, hv, hb⟩; have XN := Aside0.mk hv; obtain ⟨A, c, rfl, -⟩ := hv; have qB1 := kn_b (w0 := w) hb; have qC1 : Kn (CL _ [⟨w.heap.size, 0, none⟩, ⟨w.heap.size, 1, none⟩, ⟨w.heap.size + 1, 0, none⟩, ⟨w.heap.size + 1, 1, none⟩, ⟨w.heap.size + 1, 2, none⟩, ⟨w.heap.size + 1, 3, none⟩] [.int .i64 n, .int .i64 d, .bool false, .slice none 0 0, .bool false, .slice none 0 0]) := kn_c hb; obtain ⟨q1_0, q1_1, q1_2, q1_3, q1_4, q1_5, -⟩ := qC1.out; have qF1 : Kn (FZ _ [⟨w.heap.size + 1, 0, none⟩, ⟨w.heap.size + 1, 1, none⟩, ⟨w.heap.size + 1, 2, none⟩, ⟨w.heap.size + 1, 3, none⟩]) := kn_f hb; obtain ⟨⟨-, f1_0⟩, ⟨-, f1_1⟩, ⟨-, f1_2⟩, ⟨-, f1_3⟩, -⟩ := qF1.out; clear hb) | (go_at_call 65; (with_reducible refine (rof_any _ d HD.out).mono ?_); rintro e w3 ⟨v, rfl, hv, hb⟩; have XN3 := Aside0.mk (XN.out.below hb); have XD := Aside0.mk hv; obtain ⟨D, e1, rfl, -⟩ := hv; have qB2 := kn_b (w0 := w) hb; have qC2 : Kn (CL _ [⟨w.heap.size, 0, none⟩, ⟨w.heap.size, 1, none⟩, ⟨w.heap.size + 1, 0, none⟩, ⟨w.heap.size + 1, 1, none⟩, ⟨w.heap.size + 1, 2, none⟩, ⟨w.heap.size + 1, 3, none⟩] [.int .i64 n, .int .i64 d, .bool false, .slice none 0 0, .bool false, .slice none 0 0]) := kn_c hb; obtain ⟨q2_0, q2_1, q2_2, q2_3, q2_4, q2_5, -⟩ := qC2.out; have qF2 : Kn (FZ _ [⟨w.heap.size + 1, 0, none⟩, ⟨w.heap.size + 1, 1, none⟩, ⟨w.heap.size + 1, 2, none⟩, ⟨w.heap.size + 1, 3, none⟩]) := kn_f hb; obtain ⟨⟨-, f2_0⟩, ⟨-, f2_1⟩, ⟨-, f2_2⟩, ⟨-, f2_3⟩, -⟩ := qF2.out; clear hb)))
  go_wp2
  have hsz1 : w.heap.size + 1 < w1.heap.size := World.block_lt_of_cell? _ _ q0_5
  have hsz2 : w.heap.size + 1 < w2.heap.size := World.block_lt_of_cell? _ _ q1_5
  refine bodyPost_ret (v := .agg #[.bool (decide ((n : Int) < 0)), .slice A (dig (Int.natAbs n)).length c, .bool (decide ((d : Int) < 0)), .slice D (dig (Int.natAbs d)).length e1]) (by simp [results, Try.results61, go_sem, q2_2, q2_3, q2_4, q2_5]) rfl ⟨_, rfl, ⟨_, _, _, _, _, _, rfl, ?_⟩, below_set4 qB2.out (Nat.le_succ _) _ _ _ _⟩
  have HPart : RParts w3 (fun k => w.heap.size + 2 ≤ k) (ofQ isq n d) A D c e1 n d := ⟨XN3.out.mono fun k (hk : w1.heap.size ≤ k) => by omega, XD.out.mono fun k (hk : w2.heap.size ≤ k) => by omega, QN.out, QD.out⟩
  exact (HPart.set4 (g := w.heap.size + 1) (by omega) _ _ _ _).mono fun k hk => by omega
theorem rfrom_any (isq : Int → Int → Bool) (hi : RIsCalls isq) (hg : IsGood isq) (w : World) (n d : Int) (hn : -9223372036854775808 ≤ n ∧ n ≤ 9223372036854775807) (hd : -9223372036854775808 ≤ d ∧ d ≤ 9223372036854775807) :
    Calls Try.prog 61 #[.agg #[.int .i64 n, .int .i64 d]] w fun e w' => ∃ u, e = .returned u ∧ RF w' (fun k => w.heap.size ≤ k) u (ofQ isq n d) ∧ Below w.heap.size w w' := by
  cases h : isq n d with
  | false => exact rfrom_no isq hi w n d hn hd h
  | true => exact rfrom_yes isq hi hg w n d hn hd h
end Go.Proofs.Ytlaidcoickeihaa.Nb
namespace Go.Proofs.Ytlaidcoickeihaa.Nb
open Go.RowKit Go.Proofs.Ytlaidcoickeihaa.Wd.PrintWords Go.Proofs.Ytlaidcoickeihaa.Wd.PrintLast Go.Proofs.Ytlaidcoickeihaa.Wd.PrintMore Go.Proofs.Ytlaidcoickeihaa.Big
set_option synthInstance.maxSize 2000
set_option synthInstance.maxHeartbeats 400000
theorem dig_two {n : Nat} (h : 4294967296 ≤ n) : 2 ≤ (dig n).length := by
  have h1 := dig_lt n
  rcases Nat.lt_or_ge (dig n).length 2 with h2 | h2
  · have : 4294967296 ^ (dig n).length ≤ 4294967296 ^ 1 := Nat.pow_le_pow_right (by decide) (by omega)
    omega
  · exact h2
theorem dig_len1 {n : Nat} (h0 : 0 < n) (h : n < 4294967296) : (dig n).length = 1 := by
  have h1 := dig_len_le (n := n) (k := 1) (by rw [Nat.pow_one]; exact h)
  have := @dig_len_ne n (by omega)
  omega
set_option maxHeartbeats 4000000 in
set_option maxRecDepth 100000 in
theorem rsmall_any (w : World) (P : Nat → Prop) (v : Value) (z : Int) (h : BI w P v z) (b : Bool) (hb : decide (z.natAbs ≤ 1073741824) = b) :
    Calls Try.prog 83 #[v] w fun e w' => e = .returned (.tuple #[.int .i64 (if b = true then z else 0), .bool b]) ∧ Below w.heap.size w w' := by
  obtain ⟨A, c, rfl, hc, hw, ho⟩ := h
  have HW := Aside0.mk hw
  clear hw ho hc
  by_cases h2 : 4294967296 ≤ z.natAbs
  · have hb' : b = false := by rw [← hb]; exact decide_eq_false (by omega)
    subst hb'
    obtain ⟨l, hl⟩ : ∃ l, (dig z.natAbs).length = l := ⟨_, rfl⟩
    have hl2 : 2 ≤ l := hl ▸ dig_two h2
    rw [hl]
    have d1 : decide (1 < (l : Int)) = true := decide_eq_true (by omega)
    have d2 : decide (1 < l) = true := decide_eq_true (by omega)
    clear hb h2 HW hl
    go_enter Try.func83, Try.ntmps83
    go_wp2
    go_ret2
    exact ⟨rfl, below_alloc (Below.refl _ _) _⟩
  · by_cases h0 : z = 0
    · subst h0
      have hb' : b = true := by rw [← hb]; rfl
      subst hb'
      rw [show (Int.natAbs 0) = 0 from rfl, dig_zero]
      clear hb h2 HW
      go_enter Try.func83, Try.ntmps83
      go_wp2
      go_ret2
      exact ⟨rfl, below_alloc (Below.refl _ _) _⟩
    · obtain ⟨m, hm⟩ : ∃ m, z.natAbs = m := ⟨_, rfl⟩
      have hm0 : 0 < m := by omega
      have hmB : m < 4294967296 := by omega
      obtain ⟨e1, -, -⟩ := dig_one (dig_len1 hm0 hmB)
      have hlen := dig_len1 hm0 hmB
      obtain ⟨ad, rfl, x0⟩ := wd_at HW.out 0 (by rw [hm, hlen]; decide)
      rw [hm, e1] at x0
      have x0 : w.cell? ad = some (.int .u32 (m : Int)) := by simpa [Addr.add] using x0
      have x1 := fun o => c_low' (o := o) x0
      clear x0
      rw [hm, hlen]
      by_cases hs : m ≤ 1073741824
      · have hb' : b = true := by rw [← hb]; exact decide_eq_true (by omega)
        subst hb'
        have d1 : decide (1073741824 < (m : Int)) = false := decide_eq_false (by omega)
        by_cases hn : z < 0
        · have hd : decide (z < 0) = true := decide_eq_true hn
          have hz : z = -(m : Int) := by omega
          have HZ := Aside0.mk hz
          have hmi : (m : Int) ≤ 1073741824 := by omega
          clear hb h2 HW h0 hm e1 hlen hs hn hz
          go_enter Try.func83, Try.ntmps83
          go_wp2
          go_ret2
          exact ⟨by have e := HZ.out; subst e; rfl, below_alloc (Below.refl _ _) _⟩
        · have hd : decide (z < 0) = false := decide_eq_false hn
          have hz : z = (m : Int) := by omega
          have HZ := Aside0.mk hz
          have hmi : (m : Int) ≤ 1073741824 := by omega
          clear hb h2 HW h0 hm e1 hlen hs hn hz
          go_enter Try.func83, Try.ntmps83
          go_wp2
          go_ret2
          exact ⟨by have e := HZ.out; subst e; rfl, below_alloc (Below.refl _ _) _⟩
      · have hb' : b = false := by rw [← hb]; exact decide_eq_false (by omega)
        subst hb'
        have d1 : decide (1073741824 < (m : Int)) = true := decide_eq_true (by omega)
        clear hb h2 HW h0 hm e1 hlen hs
        go_enter Try.func83, Try.ntmps83
        go_wp2
        go_ret2
        exact ⟨rfl, below_alloc (Below.refl _ _) _⟩
theorem rnone_any (w : World) : Calls Try.prog 50 #[] w fun e w' => e = .returned (.agg #[.int .i64 0, .int .i64 0]) ∧ Below w.heap.size w w' := by
  go_enter Try.func50, Try.ntmps50
  go_wp2
  exact bodyPost_ret (v := .agg #[.int .i64 0, .int .i64 0]) (by simp [results, Try.results50, go_sem]) rfl ⟨rfl, below_alloc (Below.refl _ _) _⟩
def rtoQ (q : Rat) : (Int × Int) × Bool := if q.num.natAbs ≤ 1073741824 ∧ q.den ≤ 1073741824 then ((q.num, (q.den : Int)), true) else ((0, 0), false)
set_option maxHeartbeats 4000000 in
set_option maxRecDepth 100000 in
theorem rnumber_any (w : World) (P : Nat → Prop) (v : Value) (q : Rat) (h : RF w P v q) :
    Calls Try.prog 66 #[v] w fun e w' => e = .returned (.tuple #[.agg #[.int .i64 (rtoQ q).1.1, .int .i64 (rtoQ q).1.2], .bool (rtoQ q).2]) ∧ Below w.heap.size w w' := by
  obtain ⟨A, D, c, d, n, dd, rfl, hp⟩ := h.low
  have HP := Aside0.mk hp
  obtain ⟨b1, hb1⟩ : ∃ b, decide (n.natAbs ≤ 1073741824) = b := ⟨_, rfl⟩
  obtain ⟨b2, hb2⟩ : ∃ b, decide (dd.natAbs ≤ 1073741824) = b := ⟨_, rfl⟩
  have S1 := Aside0.mk hb1
  have S2 := Aside0.mk hb2
  have hQ : ∀ c1 c2, b1 = c1 → b2 = c2 → rtoQ q = if c1 = true ∧ c2 = true then ((n, dd), true) else ((0, 0), false) := by
    rintro _ _ rfl rfl
    unfold rtoQ
    rw [hp.isnum, hp.isden]
    have e : q.den = dd.natAbs := by rw [← hp.isden, Int.natAbs_natCast]
    rw [e, ← hb1, ← hb2]
    simp only [decide_eq_true_eq]
  clear h hp hb1 hb2
  cases b1 with
  | true =>
    cases b2 with
    | true =>
      have hq := hQ true true rfl rfl
      rw [if_pos ⟨rfl, rfl⟩] at hq
      rw [hq]
      clear hQ hq
      go_enter Try.func66, Try.ntmps66
      go_wp2_with (first | (go_at_call 83; (with_reducible refine (rsmall_any _ _ _ n (HP.out.num.below ?hb1) true S1.out).mono ?_); (case hb1 => first | exact Kn.out | with_reducible exact Aside0.out ‹_›); rintro e w1 ⟨rfl, hb⟩; have qB0 := kn_b (w0 := w) hb; have qC0 : Kn (CL _ [⟨w.heap.size, 0, none⟩, ⟨w.heap.size, 1, none⟩, ⟨w.heap.size, 2, none⟩, ⟨w.heap.size, 3, none⟩, ⟨w.heap.size + 1, 0, none⟩, ⟨w.heap.size + 1, 1, none⟩] [.bool (decide (n < 0)), .slice A (dig n.natAbs).length c, .bool (decide (dd < 0)), .slice D (dig dd.natAbs).length d, .int .i64 0, .int .i64 0]) := kn_c hb; obtain ⟨q0_0, q0_1, q0_2, q0_3, q0_4, q0_5, -⟩ := qC0.out; have qF0 : Kn (FZ _ [⟨w.heap.size + 1, 0, none⟩, ⟨w.heap.size + 1, 1, none⟩]) := kn_f hb; obtain ⟨⟨-, f0_0⟩, ⟨-, f0_1⟩, -⟩ := qF0.out; clear hb) | (go_at_call 83; (with_reducible refine (rsmall_any _ _ _ dd (HP.out.den.below ?hb2) true S2.out).mono ?_); (case hb2 => first | exact Kn.out | with_reducible exact Aside0.out ‹_›); rintro e w2 ⟨rfl, hb⟩; have qB1 := kn_b (w0 := w) hb; have qC1 : Kn (CL _ [⟨w.heap.size, 0, none⟩, ⟨w.heap.size, 1, none⟩, ⟨w.heap.size, 2, none⟩, ⟨w.heap.size, 3, none⟩, ⟨w.heap.size + 1, 0, none⟩, ⟨w.heap.size + 1, 1, none⟩] [.bool (decide (n < 0)), .slice A (dig n.natAbs).length c, .bool (decide (dd < 0)), .slice D (dig dd.natAbs).length d, .int .i64 0, .int .i64 0]) := kn_c hb; obtain ⟨q1_0, q1_1, q1_2, q1_3, q1_4, q1_5, -⟩ := qC1.out; have qF1 : Kn (FZ _ [⟨w.heap.size + 1, 0, none⟩, ⟨w.heap.size + 1, 1, none⟩]) := kn_f hb; obtain ⟨⟨-, f1_0⟩, ⟨-, f1_1⟩, -⟩ := qF1.out; clear hb))
      exact bodyPost_ret (v := .tuple #[.agg #[.int .i64 n, .int .i64 dd], .bool true]) (by simp [results, Try.results66, go_sem, q1_4, q1_5]) rfl ⟨rfl, below_set (below_set qB1.out (Nat.le_succ _)) (Nat.le_succ _)⟩
    | false =>
      have hq := hQ true false rfl rfl
      rw [if_neg (by decide)] at hq
      rw [hq]
      clear hQ hq
      go_enter Try.func66, Try.ntmps66
      go_wp2_with (first | (go_at_call 83; (with_reducible refine (rsmall_any _ _ _ n (HP.out.num.below ?hb1) true S1.out).mono ?_); (case hb1 => first | exact Kn.out | with_reducible exact Aside0.out ‹_›); rintro e w1 ⟨rfl, hb⟩; have qB0 := kn_b (w0 := w) hb; have qC0 : Kn (CL _ [⟨w.heap.size, 0, none⟩, ⟨w.heap.size, 1, none⟩, ⟨w.heap.size, 2, none⟩, ⟨w.heap.size, 3, none⟩, ⟨w.heap.size + 1, 0, none⟩, ⟨w.heap.size + 1, 1, none⟩] [.bool (decide (n < 0)), .slice A (dig n.natAbs).length c, .bool (decide (dd < 0)), .slice D (dig dd.natAbs).length d, .int .i64 0, .int .i64 0]) := kn_c hb; obtain ⟨q0_0, q0_1, q0_2, q0_3, q0_4, q0_5, -⟩ := qC0.out; have qF0 : Kn (FZ _ [⟨w.heap.size + 1, 0, none⟩, ⟨w.heap.size + 1, 1, none⟩]) := kn_f hb; obtain ⟨⟨-, f0_0⟩, ⟨-, f0_1⟩, -⟩ := qF0.out; clear hb) | (go_at_call 83; (with_reducible refine (rsmall_any _ _ _ dd (HP.out.den.below ?hb2) false S2.out).mono ?_); (case hb2 => first | exact Kn.out | with_reducible exact Aside0.out ‹_›); rintro e w2 ⟨rfl, hb⟩; have qB1 := kn_b (w0 := w) hb; have qC1 : Kn (CL _ [⟨w.heap.size, 0, none⟩, ⟨w.heap.size, 1, none⟩, ⟨w.heap.size, 2, none⟩, ⟨w.heap.size, 3, none⟩, ⟨w.heap.size + 1, 0, none⟩, ⟨w.heap.size + 1, 1, none⟩] [.bool (decide (n < 0)), .slice A (dig n.natAbs).length c, .bool (decide (dd < 0)), .slice D (dig dd.natAbs).length d, .int .i64 0, .int .i64 0]) := kn_c hb; obtain ⟨q1_0, q1_1, q1_2, q1_3, q1_4, q1_5, -⟩ := qC1.out; have qF1 : Kn (FZ _ [⟨w.heap.size + 1, 0, none⟩, ⟨w.heap.size + 1, 1, none⟩]) := kn_f hb; obtain ⟨⟨-, f1_0⟩, ⟨-, f1_1⟩, -⟩ := qF1.out; clear hb) | (go_at_call 50; (with_reducible refine (rnone_any _).mono ?_); rintro e w3 ⟨rfl, hb⟩; have qB2 := kn_b (w0 := w) hb; have qC2 : Kn (CL _ [⟨w.heap.size, 0, none⟩, ⟨w.heap.size, 1, none⟩, ⟨w.heap.size, 2, none⟩, ⟨w.heap.size, 3, none⟩, ⟨w.heap.size + 1, 0, none⟩, ⟨w.heap.size + 1, 1, none⟩] [.bool (decide (n < 0)), .slice A (dig n.natAbs).length c, .bool (decide (dd < 0)), .slice D (dig dd.natAbs).length d, .int .i64 0, .int .i64 0]) := kn_c hb; obtain ⟨q2_0, q2_1, q2_2, q2_3, q2_4, q2_5, -⟩ := qC2.out; have qF2 : Kn (FZ _ [⟨w.heap.size + 1, 0, none⟩, ⟨w.heap.size + 1, 1, none⟩]) := kn_f hb; obtain ⟨⟨-, f2_0⟩, ⟨-, f2_1⟩, -⟩ := qF2.out; clear hb))
      exact bodyPost_ret (v := .tuple #[.agg #[.int .i64 0, .int .i64 0], .bool false]) (by simp [results, Try.results66, go_sem, q2_4, q2_5]) rfl ⟨rfl, below_set (below_set qB2.out (Nat.le_succ _)) (Nat.le_succ _)⟩
  | false =>
    have hq := hQ false b2 rfl rfl
    rw [if_neg (by simp)] at hq
    rw [hq]
    clear hQ hq
    go_enter Try.func66, Try.ntmps66
    go_wp2_with (first | (go_at_call 83; (with_reducible refine (rsmall_any _ _ _ n (HP.out.num.below ?hb1) false S1.out).mono ?_); (case hb1 => first | exact Kn.out | with_reducible exact Aside0.out ‹_›); rintro e w1 ⟨rfl, hb⟩; have qB0 := kn_b (w0 := w) hb; have qC0 : Kn (CL _ [⟨w.heap.size, 0, none⟩, ⟨w.heap.size, 1, none⟩, ⟨w.heap.size, 2, none⟩, ⟨w.heap.size, 3, none⟩, ⟨w.heap.size + 1, 0, none⟩, ⟨w.heap.size + 1, 1, none⟩] [.bool (decide (n < 0)), .slice A (dig n.natAbs).length c, .bool (decide (dd < 0)), .slice D (dig dd.natAbs).length d, .int .i64 0, .int .i64 0]) := kn_c hb; obtain ⟨q0_0, q0_1, q0_2, q0_3, q0_4, q0_5, -⟩ := qC0.out; have qF0 : Kn (FZ _ [⟨w.heap.size + 1, 0, none⟩, ⟨w.heap.size + 1, 1, none⟩]) := kn_f hb; obtain ⟨⟨-, f0_0⟩, ⟨-, f0_1⟩, -⟩ := qF0.out; clear hb) | (go_at_call 83; (with_reducible refine (rsmall_any _ _ _ dd (HP.out.den.below ?hb2) b2 S2.out).mono ?_); (case hb2 => first | exact Kn.out | with_reducible exact Aside0.out ‹_›); rintro e w2 ⟨rfl, hb⟩; have qB1 := kn_b (w0 := w) hb; have qC1 : Kn (CL _ [⟨w.heap.size, 0, none⟩, ⟨w.heap.size, 1, none⟩, ⟨w.heap.size, 2, none⟩, ⟨w.heap.size, 3, none⟩, ⟨w.heap.size + 1, 0, none⟩, ⟨w.heap.size + 1, 1, none⟩] [.bool (decide (n < 0)), .slice A (dig n.natAbs).length c, .bool (decide (dd < 0)), .slice D (dig dd.natAbs).length d, .int .i64 0, .int .i64 0]) := kn_c hb; obtain ⟨q1_0, q1_1, q1_2, q1_3, q1_4, q1_5, -⟩ := qC1.out; have qF1 : Kn (FZ _ [⟨w.heap.size + 1, 0, none⟩, ⟨w.heap.size + 1, 1, none⟩]) := kn_f hb; obtain ⟨⟨-, f1_0⟩, ⟨-, f1_1⟩, -⟩ := qF1.out; clear hb) | (go_at_call 50; (with_reducible refine (rnone_any _).mono ?_); rintro e w3 ⟨rfl, hb⟩; have qB2 := kn_b (w0 := w) hb; have qC2 : Kn (CL _ [⟨w.heap.size, 0, none⟩, ⟨w.heap.size, 1, none⟩, ⟨w.heap.size, 2, none⟩, ⟨w.heap.size, 3, none⟩, ⟨w.heap.size + 1, 0, none⟩, ⟨w.heap.size + 1, 1, none⟩] [.bool (decide (n < 0)), .slice A (dig n.natAbs).length c, .bool (decide (dd < 0)), .slice D (dig dd.natAbs).length d, .int .i64 0, .int .i64 0]) := kn_c hb; obtain ⟨q2_0, q2_1, q2_2, q2_3, q2_4, q2_5, -⟩ := qC2.out; have qF2 : Kn (FZ _ [⟨w.heap.size + 1, 0, none⟩, ⟨w.heap.size + 1, 1, none⟩]) := kn_f hb; obtain ⟨⟨-, f2_0⟩, ⟨-, f2_1⟩, -⟩ := qF2.out; clear hb))
    all_goals exact bodyPost_ret (v := .tuple #[.agg #[.int .i64 0, .int .i64 0], .bool false]) (by simp [results, Try.results66, go_sem, q2_4, q2_5]) rfl ⟨rfl, below_set (below_set qB2.out (Nat.le_succ _)) (Nat.le_succ _)⟩
end Go.Proofs.Ytlaidcoickeihaa.Nb
namespace Go.Proofs.Ytlaidcoickeihaa.Nb
open Go.RowKit Go.Proofs.Ytlaidcoickeihaa.Wd.PrintWords Go.Proofs.Ytlaidcoickeihaa.Wd.PrintLast Go.Proofs.Ytlaidcoickeihaa.Wd.PrintMore Go.Proofs.Ytlaidcoickeihaa.Big
def Sm (k : Nat) (q : Rat) : Prop := q.num.natAbs < 2 ^ k ∧ q.den < 2 ^ k
theorem Sm.mono {k l : Nat} {q : Rat} (h : Sm k q) (hkl : k ≤ l) : Sm l q := by
  have := Nat.pow_le_pow_right (n := 2) (by decide) hkl
  exact ⟨Nat.lt_of_lt_of_le h.1 this, Nat.lt_of_lt_of_le h.2 this⟩
theorem divInt_num_le {a b : Int} (hb : b ≠ 0) : (Rat.divInt a b).num.natAbs ≤ a.natAbs := by
  rw [Rat.num_divInt]
  have h1 : (Int.sign b * a).natAbs ≤ a.natAbs := by
    rw [Int.natAbs_mul, Int.natAbs_sign_of_ne_zero hb, Nat.one_mul]; exact Nat.le_refl _
  exact Nat.le_trans (Int.natAbs_ediv_le_natAbs _ _) h1
theorem divInt_den_le {a b : Int} (hb : b ≠ 0) : (Rat.divInt a b).den ≤ b.natAbs := by
  rw [Rat.den_divInt, if_neg hb]
  exact Nat.div_le_self _ _
theorem Sm.of_divInt {k : Nat} {a b : Int} (hb : b ≠ 0) (h1 : a.natAbs < 2 ^ k) (h2 : b.natAbs < 2 ^ k) : Sm k (Rat.divInt a b) := ⟨Nat.lt_of_le_of_lt (divInt_num_le hb) h1, Nat.lt_of_le_of_lt (divInt_den_le hb) h2⟩
theorem den_ne (p q : Rat) : ((p.den : Int) * q.den) ≠ 0 := by
  have h1 := p.den_pos
  have h2 := q.den_pos
  have := Nat.mul_pos h1 h2
  intro h
  rw [← Int.natCast_mul] at h
  omega
theorem Sm.add {k l : Nat} {p q : Rat} (hp : Sm k p) (hq : Sm l q) : Sm (k + l + 1) (p + q) := by
  rw [fadd_val]
  refine Sm.of_divInt (den_ne p q) ?_ ?_
  · have h1 := Nat.mul_lt_mul'' hp.1 hq.2
    have h2 := Nat.mul_lt_mul'' hq.1 hp.2
    have h3 := Int.natAbs_add_le (p.num * q.den) (q.num * p.den)
    rw [Int.natAbs_mul, Int.natAbs_mul, Int.natAbs_natCast, Int.natAbs_natCast] at h3
    rw [← Nat.pow_add] at h1 h2
    rw [Nat.add_comm l k] at h2
    rw [Nat.pow_succ]
    omega
  · have h1 := Nat.mul_lt_mul'' hp.2 hq.2
    rw [Int.natAbs_mul, Int.natAbs_natCast, Int.natAbs_natCast]
    rw [← Nat.pow_add] at h1
    rw [Nat.pow_succ]
    omega
theorem Sm.mul {k l : Nat} {p q : Rat} (hp : Sm k p) (hq : Sm l q) : Sm (k + l) (p * q) := by
  rw [fmul_val]
  refine Sm.of_divInt (den_ne p q) ?_ ?_
  · have h1 := Nat.mul_lt_mul'' hp.1 hq.1
    rw [Int.natAbs_mul, Nat.pow_add]
    exact h1
  · have h1 := Nat.mul_lt_mul'' hp.2 hq.2
    rw [Int.natAbs_mul, Int.natAbs_natCast, Int.natAbs_natCast, Nat.pow_add]
    exact h1
theorem Sm.neg {k : Nat} {p : Rat} (hp : Sm k p) : Sm k (-p) := by
  refine ⟨?_, ?_⟩
  · rw [Rat.neg_num, Int.natAbs_neg]; exact hp.1
  · rw [Rat.neg_den]; exact hp.2
theorem dig_pow {n k : Nat} (h : n < 2 ^ k) : (dig n).length ≤ k := by
  refine dig_len_le (Nat.lt_of_lt_of_le h ?_)
  exact Nat.pow_le_pow_left (by decide) _
theorem Sm.rfit {k : Nat} {q : Rat} (h : Sm k q) (hk : k ≤ 4000000000000) : RFit q := ⟨Nat.le_trans (dig_pow h.1) hk, Nat.le_trans (dig_pow h.2) hk⟩
theorem Sm.fit {k : Nat} {q : Rat} (h : Sm k q) (hk : k ≤ 8000000000000) : Fit q := ⟨Nat.le_trans (dig_pow h.1) hk, Nat.le_trans (dig_pow h.2) hk⟩
theorem Sm.ofQ {isq : Int → Int → Bool} (hg : IsGood isq) {n d : Int} (hn : -9223372036854775808 ≤ n ∧ n ≤ 9223372036854775807) (hd : -9223372036854775808 ≤ d ∧ d ≤ 9223372036854775807) : Sm 64 (ofQ isq n d) := by
  by_cases h : isq n d = true
  · refine ⟨by rw [ofQ_num hg h]; omega, ?_⟩
    have := ofQ_den hg h
    omega
  · unfold Nb.ofQ; rw [if_neg h]; exact ⟨by decide, by decide⟩
end Go.Proofs.Ytlaidcoickeihaa.Nb
