/- Parts of the proof of EventsMade, joined by program out of this session's own texts. -/
import Derived.Test.YtlaidcoickeihaaZB2
set_option linter.unusedVariables false
set_option linter.unusedSimpArgs false
namespace Go.Proofs.Ytlaidcoickeihaa.Nb
open Go.RowKit Go.Proofs.Ytlaidcoickeihaa.Wd.PrintWords Go.Proofs.Ytlaidcoickeihaa.Wd.PrintLast Go.Proofs.Ytlaidcoickeihaa.Wd.PrintMore Go.Proofs.Ytlaidcoickeihaa.Big Go.Proofs.Ytlaidcoickeihaa.Plain
def In64 (n : Int) : Prop := -9223372036854775808 ≤ n ∧ n ≤ 9223372036854775807
instance (n : Int) : Decidable (In64 n) := inferInstanceAs (Decidable (_ ∧ _))
theorem isQ_good : IsGood isQ := by
  intro n d h
  rw [isQ_iff] at h
  exact ⟨h.1, h.2.2.2.2⟩
def part (ln ld hn hd : Int) (x : Rat) : Rat := ofQ isQ ln ld + (ofQ isQ hn hd - ofQ isQ ln ld) * x
def shareOf (ln ld hn hd n top : Int) : (Int × Int) × Bool := if (toQ isQ mk (part ln ld hn hd (ofQ isQ (mk n top).1 (mk n top).2))).2 = true then ((toQ isQ mk (part ln ld hn hd (ofQ isQ (mk n top).1 (mk n top).2))).1, true) else ((0, 0), true)
def mapOf0 (kind : ByteArray) (ln ld hn hd : Int) (gate : Bool) (xkind : ByteArray) (xkey xval : Int) : (Int × Int) × Bool :=
  if kind.toList = [107, 101, 121] then (mk xkey 1, true) else
  if gate = true ∧ xkind.toList = [111, 102, 102] then shareOf ln ld hn hd 0 (if kind.toList = [98, 101, 110, 100] ∨ kind.toList = [119, 105, 100, 101] then 16383 else 127) else
  if gate = true ∧ xkind.toList = [111, 110] then shareOf ln ld hn hd (if kind.toList = [98, 101, 110, 100] ∨ kind.toList = [119, 105, 100, 101] then 16383 else 127) (if kind.toList = [98, 101, 110, 100] ∨ kind.toList = [119, 105, 100, 101] then 16383 else 127) else
  if xkind.toList = [111, 102, 102] then ((0, 0), false) else
  shareOf ln ld hn hd xval (if kind.toList = [98, 101, 110, 100] ∨ kind.toList = [119, 105, 100, 101] then 16383 else 127)
def mapOf (kind : ByteArray) (ln ld hn hd : Int) (gate : Bool) (xkind : ByteArray) (xkey xval : Int) : Option (Int × Int × Bool) :=
  if In64 ln ∧ In64 ld ∧ In64 hn ∧ In64 hd ∧ In64 xkey ∧ In64 xval then some ((mapOf0 kind ln ld hn hd gate xkind xkey xval).1.1, (mapOf0 kind ln ld hn hd gate xkind xkey xval).1.2, (mapOf0 kind ln ld hn hd gate xkind xkey xval).2) else none
theorem mk_good (n d : Int) (hd : d ≠ 0) (hn : n.natAbs ≤ 1073741824) (h2 : d.natAbs ≤ 1073741824) : ofQ isQ (mk n d).1 (mk n d).2 = Rat.divInt n d := by
  rcases mk_told n d hd with h | h
  · have h1 := Nat.div_le_self n.natAbs (Nat.gcd n.natAbs d.natAbs)
    have h3 := Nat.div_le_self d.natAbs (Nat.gcd n.natAbs d.natAbs)
    exact absurd h.2 (by omega)
  · unfold ofQ
    rw [if_pos h.1]
    have hq := (isQ_iff.1 h.1).1
    exact (Rat.divInt_eq_divInt_iff (by omega) hd).2 h.2
theorem toQ_is (q : Rat) : (if (toQ isQ mk q).2 = true then (toQ isQ mk q).1 else (0, 0)) = (rtoQ q).1 := by
  unfold toQ rtoQ
  by_cases h0 : q.num = 0
  · rw [if_pos h0, if_pos rfl]
    have : q = 0 := Rat.num_eq_zero.1 h0
    subst this
    rfl
  · rw [if_neg h0]
    have hc : Nat.gcd q.num.natAbs q.den = 1 := q.reduced
    have hd := q.den_pos
    by_cases h : q.num.natAbs ≤ 1073741824 ∧ q.den ≤ 1073741824
    · rw [if_pos h]
      have hi : isQ q.num q.den = true := isQ_iff.2 ⟨by omega, by omega, by omega, by omega, by rw [Int.natAbs_natCast]; exact hc⟩
      have hs1 : isSmall q.num = true := by unfold isSmall; exact decide_eq_true (by omega)
      have hs2 : isSmall (q.den : Int) = true := by unfold isSmall; exact decide_eq_true (by rw [Int.natAbs_natCast]; omega)
      rw [mk_self hi]
      simp only [hs1, hs2, hi, and_self, if_true]
    · rw [if_neg h]
      split
      · rename_i hs
        have hm : mk q.num q.den = (0, 0) := by
          unfold mk
          rw [if_neg (by omega), Int.natAbs_natCast, hc, Nat.div_one, Nat.div_one, if_pos (by omega)]
        rw [hm]
        rfl
      · rfl
end Go.Proofs.Ytlaidcoickeihaa.Nb
namespace Go.Proofs.Ytlaidcoickeihaa.Nb
open Go.RowKit Go.Proofs.Ytlaidcoickeihaa.Wd.PrintWords Go.Proofs.Ytlaidcoickeihaa.Wd.PrintLast Go.Proofs.Ytlaidcoickeihaa.Wd.PrintMore Go.Proofs.Ytlaidcoickeihaa.Big
def fitsOf (m0 : ByteArray) (m1 m2 : Int) (x0 : ByteArray) (x1 x2 : Int) : Bool := (x0.toList == m0.toList || (m0.toList == ([111, 110] : List UInt8) && x0.toList == ([111, 102, 102] : List UInt8)) || (m0.toList == ([107, 101, 121] : List UInt8) && x0.toList == ([111, 110] : List UInt8))) && (m1 == (-1) || m1 == x1) && (m0.toList == ([98, 101, 110, 100] : List UInt8) || m2 == (-1) || m2 == x2)
set_option maxHeartbeats 8000000 in
set_option maxRecDepth 100000 in
theorem fits_any (w : World) (m0 : ByteArray) (m1 m2 : Int) (m3 : ByteArray) (m4 m5 m6 m7 : Int) (m8 : Bool) (x0 : ByteArray) (x1 x2 x3 : Int) :
    Calls Try.prog 35 #[.agg #[.string m0, .int .i64 m1, .int .i64 m2, .string m3, .int .i64 m4, .int .i64 m5, .int .i64 m6, .int .i64 m7, .bool m8], .agg #[.string x0, .int .i64 x1, .int .i64 x2, .int .i64 x3]] w fun e w' => e = .returned (.bool (fitsOf m0 m1 m2 x0 x1 x2)) ∧ Below w.heap.size w w' := by
  have hu48 := Try.underlying48
  have hu37 := Try.underlying37
  unfold fitsOf
  obtain ⟨kb, hkb⟩ : ∃ b, (x0.toList == m0.toList || (m0.toList == ([111, 110] : List UInt8) && x0.toList == ([111, 102, 102] : List UInt8)) || (m0.toList == ([107, 101, 121] : List UInt8) && x0.toList == ([111, 110] : List UInt8))) = b := ⟨_, rfl⟩
  rw [hkb]
  go_enter Try.func35, Try.ntmps35
  go_upto_region 1 with fail
  obtain ⟨w3, hw3⟩ : ∃ W, W = (w.alloc (.cells #[.string m0, .int .i64 m1, .int .i64 m2, .string m3, .int .i64 m4, .int .i64 m5, .int .i64 m6, .int .i64 m7, .bool m8] 48)).alloc (.cells #[.string x0, .int .i64 x1, .int .i64 x2, .int .i64 x3] 37) := ⟨_, rfl⟩
  rw [← hw3]
  have hC : Kn (CL w3 [⟨w.heap.size, 0, none⟩, ⟨w.heap.size, 1, none⟩, ⟨w.heap.size, 2, none⟩, ⟨w.heap.size, 3, none⟩, ⟨w.heap.size, 4, none⟩, ⟨w.heap.size, 5, none⟩, ⟨w.heap.size, 6, none⟩, ⟨w.heap.size, 7, none⟩, ⟨w.heap.size, 8, none⟩, ⟨w.heap.size + 1, 0, none⟩, ⟨w.heap.size + 1, 1, none⟩, ⟨w.heap.size + 1, 2, none⟩, ⟨w.heap.size + 1, 3, none⟩] [.string m0, .int .i64 m1, .int .i64 m2, .string m3, .int .i64 m4, .int .i64 m5, .int .i64 m6, .int .i64 m7, .bool m8, .string x0, .int .i64 x1, .int .i64 x2, .int .i64 x3]) := by rw [hw3]; infer_instance
  have hB : Kn (Below w.heap.size w w3) := by rw [hw3]; infer_instance
  clear hw3
  obtain ⟨c0, c1, c2, c3, c4, c5, c6, c7, c8, c9, c10, c11, c12, -⟩ := hC.out
  clear hC
  go_cut [5] (fun v5 W => v5 = .bool kb ∧ W = w3)
  case first =>
    subst hkb
    obtain ⟨b1, e_b1⟩ : ∃ b, (x0.toList == m0.toList) = b := ⟨_, rfl⟩
    obtain ⟨b2, e_b2⟩ : ∃ b, (m0.toList == ([111, 110] : List UInt8)) = b := ⟨_, rfl⟩
    obtain ⟨b3, e_b3⟩ : ∃ b, (x0.toList == ([111, 102, 102] : List UInt8)) = b := ⟨_, rfl⟩
    obtain ⟨b4, e_b4⟩ : ∃ b, (m0.toList == ([107, 101, 121] : List UInt8)) = b := ⟨_, rfl⟩
    obtain ⟨b5, e_b5⟩ : ∃ b, (x0.toList == ([111, 110] : List UInt8)) = b := ⟨_, rfl⟩
    rcases (show (b1 = true) ∨ (b1 = false ∧ b2 = true ∧ b3 = true) ∨ (b1 = false ∧ b2 = true ∧ b3 = false ∧ b4 = true ∧ b5 = true) ∨ (b1 = false ∧ b2 = true ∧ b3 = false ∧ b4 = true ∧ b5 = false) ∨ (b1 = false ∧ b2 = true ∧ b3 = false ∧ b4 = false) ∨ (b1 = false ∧ b2 = false ∧ b4 = true ∧ b5 = true) ∨ (b1 = false ∧ b2 = false ∧ b4 = true ∧ b5 = false) ∨ (b1 = false ∧ b2 = false ∧ b4 = false) by cases b1 <;> cases b2 <;> cases b3 <;> cases b4 <;> cases b5 <;> simp) with rfl | ⟨rfl, rfl, rfl⟩ | ⟨rfl, rfl, rfl, rfl, rfl⟩ | ⟨rfl, rfl, rfl, rfl, rfl⟩ | ⟨rfl, rfl, rfl, rfl⟩ | ⟨rfl, rfl, rfl, rfl⟩ | ⟨rfl, rfl, rfl, rfl⟩ | ⟨rfl, rfl, rfl⟩ <;>
      (go_wp2
       go_meet
       exact ⟨by simp [*], rfl⟩)
  case rest =>
    obtain ⟨rfl, hw⟩ := hcut
    obtain rfl : w3 = wc := hw.symm
    clear hw hkb
    cases kb with
    | false =>
      go_wp2
      go_ret
      exact ⟨by simp, hB.out⟩
    | true =>
      obtain ⟨b6, e_b6⟩ : ∃ b, (m1 == (-1)) = b := ⟨_, rfl⟩
      obtain ⟨b7, e_b7⟩ : ∃ b, (m1 == x1) = b := ⟨_, rfl⟩
      obtain ⟨b8, e_b8⟩ : ∃ b, (m0.toList == ([98, 101, 110, 100] : List UInt8)) = b := ⟨_, rfl⟩
      obtain ⟨b9, e_b9⟩ : ∃ b, (m2 == (-1)) = b := ⟨_, rfl⟩
      rcases (show (b6 = true) ∨ (b6 = false ∧ b7 = true) ∨ (b6 = false ∧ b7 = false) by cases b6 <;> cases b7 <;> simp) with rfl | ⟨rfl, rfl⟩ | ⟨rfl, rfl⟩ <;> rcases (show (b8 = true) ∨ (b8 = false ∧ b9 = true) ∨ (b8 = false ∧ b9 = false) by cases b8 <;> cases b9 <;> simp) with rfl | ⟨rfl, rfl⟩ | ⟨rfl, rfl⟩ <;>
        (go_wp2
         go_ret
         exact ⟨by simp [*], hB.out⟩)
end Go.Proofs.Ytlaidcoickeihaa.Nb
namespace Go.Proofs.Ytlaidcoickeihaa.Nb
open Go.RowKit Go.Proofs.Ytlaidcoickeihaa.Wd.PrintWords Go.Proofs.Ytlaidcoickeihaa.Wd.PrintLast Go.Proofs.Ytlaidcoickeihaa.Wd.PrintMore Go.Proofs.Ytlaidcoickeihaa.Big Go.Proofs.Ytlaidcoickeihaa.Plain
set_option synthInstance.maxSize 2000
set_option synthInstance.maxHeartbeats 400000
instance (priority := low) kn_le (w W : World) [h : Kn (Below w.heap.size w W)] : Kn (w.heap.size ≤ W.heap.size) := ⟨h.out.size⟩
instance sz_d (W : World) (n : Nat) [h : Sz W n] : Sz W.drew n := ⟨h.out⟩
theorem RParts.rf {w : World} {ok : Nat → Prop} {q : Rat} {A B : Option Addr} {c d : Nat} {n dd : Int} (h : RParts w ok q A B c d n dd) : RF w ok (.agg #[.bool (decide (n < 0)), .slice A (dig n.natAbs).length c, .bool (decide (dd < 0)), .slice B (dig dd.natAbs).length d]) q := ⟨A, B, c, d, n, dd, rfl, h⟩
def RV (W : World) (g : Nat) (q : Rat) : Prop :=
  ∃ A D c d n dd, CL W [⟨g, 0, none⟩, ⟨g, 1, none⟩, ⟨g, 2, none⟩, ⟨g, 3, none⟩] [.bool (decide (n < 0)), .slice A (dig n.natAbs).length c, .bool (decide (dd < 0)), .slice D (dig dd.natAbs).length d] ∧ RParts W (fun _ => True) q A D c d n dd
theorem RV.below {W W1 : World} {g : Nat} {q : Rat} (h : RV W g q) (hb : Below W.heap.size W W1) : RV W1 g q := by
  obtain ⟨A, D, c, d, n, dd, h1, h2⟩ := h
  exact ⟨A, D, c, d, n, dd, cl_below hb h1, h2.below hb⟩
theorem four_cl (w : World) (a0 a1 a2 a3 : Value) (T : TypeId) : ∃ W g, W = w.alloc (.cells #[a0, a1, a2, a3] T) ∧ g = w.heap.size ∧ CL W [⟨g, 0, none⟩, ⟨g, 1, none⟩, ⟨g, 2, none⟩, ⟨g, 3, none⟩] [a0, a1, a2, a3] ∧ Below w.heap.size w W :=
  ⟨_, _, rfl, rfl, cl_c (c_new rfl rfl) (cl_c (c_new rfl rfl) (cl_c (c_new rfl rfl) (cl_c (c_new rfl rfl) (cl_n _)))), below_alloc (Below.refl _ _) _⟩
theorem cl_set4 {W : World} {g : Nat} {a0 a1 a2 a3 b0 b1 b2 b3 : Value} (h : CL W [⟨g, 0, none⟩, ⟨g, 1, none⟩, ⟨g, 2, none⟩, ⟨g, 3, none⟩] [a0, a1, a2, a3]) :
    CL ((((W.setCell ⟨g, 0, none⟩ b0).setCell ⟨g, 1, none⟩ b1).setCell ⟨g, 2, none⟩ b2).setCell ⟨g, 3, none⟩ b3) [⟨g, 0, none⟩, ⟨g, 1, none⟩, ⟨g, 2, none⟩, ⟨g, 3, none⟩] [b0, b1, b2, b3] := by
  obtain ⟨h0, h1, h2, h3, -⟩ := h
  exact cl_c (kset1 (by simp) (kset1 (by simp) (kset1 (by simp) (csame h0)))) (cl_c (kset1 (by simp) (kset1 (by simp) (csame (kset1 (by simp) h1)))) (cl_c (kset1 (by simp) (csame (kset1 (by simp) (kset1 (by simp) h2)))) (cl_c (csame (kset1 (by simp) (kset1 (by simp) (kset1 (by simp) h3)))) (cl_n _))))
theorem RParts.any {w : World} {ok : Nat → Prop} {q : Rat} {A B : Option Addr} {c d : Nat} {n dd : Int} (h : RParts w ok q A B c d n dd) : RParts w (fun _ => True) q A B c d n dd := h.mono fun _ _ => trivial
theorem RV.mk {W : World} {q : Rat} {A B : Option Addr} {c d : Nat} {n dd : Int} (T : TypeId) (h : RParts W (fun _ => True) q A B c d n dd) : RV (W.alloc (.cells #[.bool (decide (n < 0)), .slice A (dig n.natAbs).length c, .bool (decide (dd < 0)), .slice B (dig dd.natAbs).length d] T)) W.heap.size q :=
  ⟨A, B, c, d, n, dd, cl_c (c_new rfl rfl) (cl_c (c_new rfl rfl) (cl_c (c_new rfl rfl) (cl_c (c_new rfl rfl) (cl_n _)))), h.below (below_alloc (Below.refl _ _) _)⟩
theorem RV.set {W : World} {g B : Nat} {q : Rat} {A D : Option Addr} {c d : Nat} {n dd : Int} {a0 a1 a2 a3 : Value} (hC : Kn (CL W [⟨g, 0, none⟩, ⟨g, 1, none⟩, ⟨g, 2, none⟩, ⟨g, 3, none⟩] [a0, a1, a2, a3])) (h : RParts W (fun k => B ≤ k) q A D c d n dd) (hg : g < B) :
    RV ((((W.setCell ⟨g, 0, none⟩ (.bool (decide (n < 0)))).setCell ⟨g, 1, none⟩ (.slice A (dig n.natAbs).length c)).setCell ⟨g, 2, none⟩ (.bool (decide (dd < 0)))).setCell ⟨g, 3, none⟩ (.slice D (dig dd.natAbs).length d)) g q :=
  ⟨A, D, c, d, n, dd, cl_set4 hC.out, (h.set4 (g := g) (Nat.not_le.2 hg) _ _ _ _).any⟩
theorem two_cl (w : World) (a0 a1 : Value) (T : TypeId) : CL (w.alloc (.cells #[a0, a1] T)) [⟨w.heap.size, 0, none⟩, ⟨w.heap.size, 1, none⟩] [a0, a1] :=
  cl_c (c_new rfl rfl) (cl_c (c_new rfl rfl) (cl_n _))
theorem cl_set2 {W : World} {g : Nat} {a0 a1 b0 b1 : Value} (h : Kn (CL W [⟨g, 0, none⟩, ⟨g, 1, none⟩] [a0, a1])) :
    CL ((W.setCell ⟨g, 0, none⟩ b0).setCell ⟨g, 1, none⟩ b1) [⟨g, 0, none⟩, ⟨g, 1, none⟩] [b0, b1] := by
  obtain ⟨h0, h1, -⟩ := h.out
  exact cl_c (kset1 (by simp) (csame h0)) (cl_c (csame (kset1 (by simp) h1)) (cl_n _))
set_option maxHeartbeats 8000000 in
set_option maxRecDepth 100000 in
theorem rmade_any (hi : RIsCalls isQ) (w : World) (k m3 : ByteArray) (m1 m2 m4 m5 m6 m7 n top : Int) (m8 : Bool) (h4 : In64 m4) (h5 : In64 m5) (h6 : In64 m6) (h7 : In64 m7) (hn : In64 n) (ht : In64 top) (h0 : top ≠ 0) :
    Calls Try.prog 49 #[.agg #[.string k, .int .i64 m1, .int .i64 m2, .string m3, .int .i64 m4, .int .i64 m5, .int .i64 m6, .int .i64 m7, .bool m8], .int .i64 n, .int .i64 top] w fun e w' => e = .returned (.agg #[.int .i64 (rtoQ (part m4 m5 m6 m7 (Rat.divInt n top))).1.1, .int .i64 (rtoQ (part m4 m5 m6 m7 (Rat.divInt n top))).1.2]) ∧ Below w.heap.size w w' := by
  unfold part
  rw [Rat.sub_eq_add_neg]
  have hsl := Sm.ofQ isQ_good h4 h5
  have hsh := Sm.ofQ isQ_good h6 h7
  obtain ⟨lo, hlo⟩ : ∃ q, ofQ isQ m4 m5 = q := ⟨_, rfl⟩
  obtain ⟨up, hup⟩ : ∃ q, ofQ isQ m6 m7 = q := ⟨_, rfl⟩
  obtain ⟨sh, hsd⟩ : ∃ q, Rat.divInt n top = q := ⟨_, rfl⟩
  have hss : Sm 64 sh := by
    rw [← hsd]
    exact Sm.of_divInt h0 (by unfold In64 at hn; omega) (by unfold In64 at ht; omega)
  rw [hlo, hup, hsd]
  rw [hlo] at hsl
  rw [hup] at hsh
  obtain ⟨dn, hdn⟩ : ∃ q, up + -lo = q := ⟨_, rfl⟩
  have hsdn := hsh.add hsl.neg
  rw [hdn] at hsdn ⊢
  obtain ⟨pr, hpr⟩ : ∃ q, dn * sh = q := ⟨_, rfl⟩
  have hspr := hsdn.mul hss
  rw [hpr] at hspr ⊢
  obtain ⟨al, hal⟩ : ∃ q, lo + pr = q := ⟨_, rfl⟩
  rw [hal]
  obtain ⟨⟨⟨r1, r2⟩, rb⟩, hr⟩ : ∃ r, rtoQ al = r := ⟨_, rfl⟩
  rw [hr]
  have hr0 : rb = false → r1 = 0 ∧ r2 = 0 := by
    intro hb
    unfold rtoQ at hr
    split at hr
    · injection hr with h1 h2; rw [hb] at h2; cases h2
    · injection hr with h1 h2; injection h1 with h3 h4; exact ⟨h3.symm, h4.symm⟩
  have HR0 := Aside0.mk hr0
  have HI := Aside0.mk hi
  have HG := Aside0.mk isQ_good
  have H4 : Aside0 (-9223372036854775808 ≤ m4 ∧ m4 ≤ 9223372036854775807) := ⟨h4⟩
  have H5 : Aside0 (-9223372036854775808 ≤ m5 ∧ m5 ≤ 9223372036854775807) := ⟨h5⟩
  have H6 : Aside0 (-9223372036854775808 ≤ m6 ∧ m6 ≤ 9223372036854775807) := ⟨h6⟩
  have H7 : Aside0 (-9223372036854775808 ≤ m7 ∧ m7 ≤ 9223372036854775807) := ⟨h7⟩
  have HN : Aside0 (-9223372036854775808 ≤ n ∧ n ≤ 9223372036854775807) := ⟨hn⟩
  have HT : Aside0 (-9223372036854775808 ≤ top ∧ top ≤ 9223372036854775807) := ⟨ht⟩
  have H0 := Aside0.mk h0
  have EL := Aside0.mk hlo
  have EU := Aside0.mk hup
  have ES := Aside0.mk hsd
  have ED := Aside0.mk hdn
  have EP := Aside0.mk hpr
  have EA := Aside0.mk hal
  have ER := Aside0.mk hr
  have FL := Aside0.mk (hsl.rfit (by decide))
  have FM := Aside0.mk (hsl.neg.rfit (by decide))
  have FU := Aside0.mk (hsh.rfit (by decide))
  have FS := Aside0.mk (hss.rfit (by decide))
  have FD := Aside0.mk (hsdn.rfit (by decide))
  have FP := Aside0.mk (hspr.rfit (by decide))
  have LN : Aside0 ((dig n.natAbs).length ≤ 8796093022208) := ⟨Nat.le_trans (dig_pow (k := 64) (by unfold In64 at hn; omega)) (by decide)⟩
  have LT : Aside0 ((dig top.natAbs).length ≤ 8796093022208) := ⟨Nat.le_trans (dig_pow (k := 64) (by unfold In64 at ht; omega)) (by decide)⟩
  clear hr0 hi h4 h5 h6 h7 hn ht h0 hsl hsh hss hsdn hspr hr hal hpr hdn hsd hup hlo
  go_enter Try.func49, Try.ntmps49
  go_upto_region 2 with (go_at_call 61; (with_reducible refine (rfrom_any isQ HI.out HG.out _ m4 m5 H4.out H5.out).mono ?_); rintro e w1 ⟨v, rfl, hv, hb⟩; rw [EL.out] at hv; obtain ⟨A0, D0, c0, d0, n0, e0, rfl, hx⟩ := hv; have XL0 := Aside0.mk hx.any; clear hx; have qB0 := kn_b (w0 := w) hb; have qC0 : Kn (CL _ [⟨w.heap.size, 0, none⟩, ⟨w.heap.size, 1, none⟩, ⟨w.heap.size, 2, none⟩, ⟨w.heap.size, 3, none⟩, ⟨w.heap.size, 4, none⟩, ⟨w.heap.size, 5, none⟩, ⟨w.heap.size, 6, none⟩, ⟨w.heap.size, 7, none⟩, ⟨w.heap.size, 8, none⟩, ⟨w.heap.size + 1, 0, none⟩, ⟨w.heap.size + 1, 1, none⟩] [.string k, .int .i64 m1, .int .i64 m2, .string m3, .int .i64 m4, .int .i64 m5, .int .i64 m6, .int .i64 m7, .bool m8, .int .i64 0, .int .i64 0]) := kn_c hb; obtain ⟨q0_0, q0_1, q0_2, q0_3, q0_4, q0_5, q0_6, q0_7, q0_8, q0_9, q0_10, -⟩ := qC0.out; have qF0 : Kn (FZ _ [⟨w.heap.size + 1, 0, none⟩, ⟨w.heap.size + 1, 1, none⟩]) := kn_f hb; obtain ⟨⟨-, f0_0⟩, ⟨-, f0_1⟩, -⟩ := qF0.out; clear hb)
  obtain ⟨w5, g7, hw5, hg7, hc7, hb5⟩ := four_cl w1 (.bool (decide (n0 < 0))) (.slice A0 (dig n0.natAbs).length c0) (.bool (decide (e0 < 0))) (.slice D0 (dig e0.natAbs).length d0) 108
  rw [← hw5, ← hg7]
  have XL := Aside0.mk (XL0.out.below hb5)
  have hB5 : Kn (Below w.heap.size w w5) := ⟨below_step qB0.out hb5⟩
  obtain ⟨x0, x1, x2, x3, -⟩ := hc7
  have c6 := kc hb5 q0_6
  have c7 := kc hb5 q0_7
  have r0 := kc hb5 q0_9
  have r1_ := kc hb5 q0_10
  have y0 := kf hb5 q0_9 f0_0
  have y1 := kf hb5 q0_10 f0_1
  clear hw5 hg7 hb5 XL0 qB0 qC0 qF0 q0_0 q0_1 q0_2 q0_3 q0_4 q0_5 q0_6 q0_7 q0_8 q0_9 q0_10 f0_0 f0_1
  go_cut [8] (fun v8 W => Kn (Below w5.heap.size w5 W) ∧ ∃ g8, v8 = .pointer (some ⟨g8, 0, none⟩) ∧ RV W g8 dn)
  case first =>
    go_region_held3 (fun W => W.cell? ⟨w.heap.size, 6, none⟩ = some (.int .i64 m6) ∧ W.cell? ⟨w.heap.size, 7, none⟩ = some (.int .i64 m7) ∧ W.cell? ⟨g7, 0, none⟩ = some (.bool (decide (n0 < 0))) ∧ W.cell? ⟨g7, 1, none⟩ = some (.slice A0 (dig n0.natAbs).length c0) ∧ W.cell? ⟨g7, 2, none⟩ = some (.bool (decide (e0 < 0))) ∧ W.cell? ⟨g7, 3, none⟩ = some (.slice D0 (dig e0.natAbs).length d0) ∧ Kn (Below w5.heap.size w5 W)) (((repeat' apply And.intro) <;> first | infer_instance | exact kc (W := w5) Kn.out (by assumption))) (first | (go_at_call 61; (with_reducible refine (rfrom_any isQ HI.out HG.out _ m6 m7 H6.out H7.out).mono ?_); rintro e wH ⟨v, rfl, hv, hb⟩; rw [EU.out] at hv; obtain ⟨A1, D1, c1, d1, n1, e1, rfl, hx⟩ := hv; have XH := Aside0.mk hx.any; clear hx; have kB := kn_b (w0 := w5) hb; (try (have zC := kn_c (ps := [⟨w5.heap.size, 0, none⟩, ⟨w5.heap.size, 1, none⟩, ⟨w5.heap.size, 2, none⟩, ⟨w5.heap.size, 3, none⟩]) (vs := [.bool false, .slice none 0 0, .bool false, .slice none 0 0]) hb; have zF := kn_f (ps := [⟨w5.heap.size, 0, none⟩, ⟨w5.heap.size, 1, none⟩, ⟨w5.heap.size, 2, none⟩, ⟨w5.heap.size, 3, none⟩]) hb; obtain ⟨z0, z1, z2, z3, -⟩ := zC.out; obtain ⟨⟨-, y0⟩, ⟨-, y1⟩, ⟨-, y2⟩, ⟨-, y3⟩, -⟩ := zF.out; have zL : w5.heap.size < _ := World.block_lt_of_cell? _ _ z0)); clear hb) | (go_at_call 63; (with_reducible refine (rless_any _ (fun _ => True) _ lo (XL.out.below ?hb).rf).mono ?_); (case hb => exact Kn.out); rintro e wN ⟨v, rfl, hv, hb⟩; obtain ⟨A2, D2, c2, d2, n2, e2, rfl, hx⟩ := hv; have XN := Aside0.mk hx; clear hx; have kB := kn_b (w0 := w5) hb; (try have kB_wH := kn_b (w0 := wH) hb); (try (have zC := kn_c (ps := [⟨w5.heap.size, 0, none⟩, ⟨w5.heap.size, 1, none⟩, ⟨w5.heap.size, 2, none⟩, ⟨w5.heap.size, 3, none⟩]) (vs := [.bool false, .slice none 0 0, .bool false, .slice none 0 0]) hb; have zF := kn_f (ps := [⟨w5.heap.size, 0, none⟩, ⟨w5.heap.size, 1, none⟩, ⟨w5.heap.size, 2, none⟩, ⟨w5.heap.size, 3, none⟩]) hb; obtain ⟨z0, z1, z2, z3, -⟩ := zC.out; obtain ⟨⟨-, y0⟩, ⟨-, y1⟩, ⟨-, y2⟩, ⟨-, y3⟩, -⟩ := zF.out; have zL : w5.heap.size < _ := World.block_lt_of_cell? _ _ z0)); (try (have zC := kn_c (ps := [⟨wH.heap.size, 0, none⟩, ⟨wH.heap.size, 1, none⟩, ⟨wH.heap.size, 2, none⟩, ⟨wH.heap.size, 3, none⟩]) (vs := [.bool false, .slice none 0 0, .bool false, .slice none 0 0]) hb; have zF := kn_f (ps := [⟨wH.heap.size, 0, none⟩, ⟨wH.heap.size, 1, none⟩, ⟨wH.heap.size, 2, none⟩, ⟨wH.heap.size, 3, none⟩]) hb; obtain ⟨z0, z1, z2, z3, -⟩ := zC.out; obtain ⟨⟨-, y0⟩, ⟨-, y1⟩, ⟨-, y2⟩, ⟨-, y3⟩, -⟩ := zF.out; have zL : wH.heap.size < _ := World.block_lt_of_cell? _ _ z0)); clear hb) | (go_at_call 62; (with_reducible refine (rsum_any _ (fun _ => True) (fun _ => True) _ _ up (-lo) (XH.out.below ?hb).rf (XN.out.below ?hb2).rf FU.out FM.out).mono ?_); (case hb => exact Kn.out); (case hb2 => exact Kn.out); rintro e wD ⟨v, rfl, hv, hb⟩; rw [ED.out] at hv; obtain ⟨A3, D3, c3, d3, n3, e3, rfl, hx⟩ := hv; have XD := Aside0.mk hx; clear hx; have kB := kn_b (w0 := w5) hb; (try (have zC := kn_c (ps := [⟨w5.heap.size, 0, none⟩, ⟨w5.heap.size, 1, none⟩, ⟨w5.heap.size, 2, none⟩, ⟨w5.heap.size, 3, none⟩]) (vs := [.bool false, .slice none 0 0, .bool false, .slice none 0 0]) hb; have zF := kn_f (ps := [⟨w5.heap.size, 0, none⟩, ⟨w5.heap.size, 1, none⟩, ⟨w5.heap.size, 2, none⟩, ⟨w5.heap.size, 3, none⟩]) hb; obtain ⟨z0, z1, z2, z3, -⟩ := zC.out; obtain ⟨⟨-, y0⟩, ⟨-, y1⟩, ⟨-, y2⟩, ⟨-, y3⟩, -⟩ := zF.out; have zL : w5.heap.size < _ := World.block_lt_of_cell? _ _ z0)); (try (have zC := kn_c (ps := [⟨wH.heap.size, 0, none⟩, ⟨wH.heap.size, 1, none⟩, ⟨wH.heap.size, 2, none⟩, ⟨wH.heap.size, 3, none⟩]) (vs := [.bool false, .slice none 0 0, .bool false, .slice none 0 0]) hb; have zF := kn_f (ps := [⟨wH.heap.size, 0, none⟩, ⟨wH.heap.size, 1, none⟩, ⟨wH.heap.size, 2, none⟩, ⟨wH.heap.size, 3, none⟩]) hb; obtain ⟨z0, z1, z2, z3, -⟩ := zC.out; obtain ⟨⟨-, y0⟩, ⟨-, y1⟩, ⟨-, y2⟩, ⟨-, y3⟩, -⟩ := zF.out; have zL : wH.heap.size < _ := World.block_lt_of_cell? _ _ z0)); (try (have zC := kn_c (ps := [⟨wN.heap.size, 0, none⟩, ⟨wN.heap.size, 1, none⟩, ⟨wN.heap.size, 2, none⟩, ⟨wN.heap.size, 3, none⟩]) (vs := [.bool false, .slice none 0 0, .bool false, .slice none 0 0]) hb; have zF := kn_f (ps := [⟨wN.heap.size, 0, none⟩, ⟨wN.heap.size, 1, none⟩, ⟨wN.heap.size, 2, none⟩, ⟨wN.heap.size, 3, none⟩]) hb; obtain ⟨z0, z1, z2, z3, -⟩ := zC.out; obtain ⟨⟨-, y0⟩, ⟨-, y1⟩, ⟨-, y2⟩, ⟨-, y3⟩, -⟩ := zF.out; have zL : wN.heap.size < _ := World.block_lt_of_cell? _ _ z0)); clear hb))
    all_goals (go_wp2_with fail)
    all_goals go_meet
    all_goals (refine ⟨inferInstance, _, rfl, ?_⟩)
    all_goals first
      | (with_reducible exact RV.mk 108 XD.out.any)
      | (with_reducible refine RV.set zC XD.out ?_; first | omega | (simp; done) | (simp; omega))
  case rest =>
    obtain ⟨kB8, g8, rfl, hv8⟩ := hcut
    have HV8 := Aside0.mk hv8
    clear hv8
    go_upto_region 4 with (first
      | (go_at_call 65; (with_reducible refine (rof_any _ n HN.out).mono ?_); rintro e wO ⟨v, rfl, hv, hb⟩; have XO := Aside0.mk hv; have kB := kn_b (w0 := w5) hb; (try have kB_wc := kn_b (w0 := wc) hb); clear hb)
      | (go_at_call 65; (with_reducible refine (rof_any _ top HT.out).mono ?_); rintro e wT ⟨v, rfl, hv, hb⟩; have XO2 := Aside0.mk (XO.out.below hb); have XT := Aside0.mk hv; have kB := kn_b (w0 := w5) hb; (try have kB_wc := kn_b (w0 := wc) hb); clear hb)
      | (go_at_call 64; (with_reducible refine (rover_any _ (fun _ => True) _ _ n top (XO2.out.mono fun _ _ => trivial) (XT.out.mono fun _ _ => trivial) LN.out LT.out H0.out).mono ?_); rintro e wQ ⟨v, rfl, hv, hb⟩; rw [ES.out] at hv; obtain ⟨A9, D9, c9, d9, n9, e9, rfl, hx⟩ := hv; have XS0 := Aside0.mk hx.any; clear hx; have kB := kn_b (w0 := w5) hb; (try have kB_wc := kn_b (w0 := wc) hb); clear hb))
    obtain ⟨w9, g9, hw9, hg9, hc9, hb9⟩ := four_cl wQ (.bool (decide (n9 < 0))) (.slice A9 (dig n9.natAbs).length c9) (.bool (decide (e9 < 0))) (.slice D9 (dig e9.natAbs).length d9) 108
    rw [← hw9, ← hg9]
    have XS := Aside0.mk (XS0.out.below hb9)
    have k59 := kn_b (w0 := w5) hb9
    have kc9 := kn_b (w0 := wc) hb9
    obtain ⟨A8, D8, c8, d8, n8, e8, ⟨b0, b1, b2, b3, -⟩, hx8⟩ := HV8.out.below kc9.out
    have X8 := Aside0.mk hx8
    have X7 := Aside0.mk (XL.out.below k59.out)
    obtain ⟨z0, z1, z2, z3, -⟩ := hc9
    have a0 := kc k59.out x0
    have a1 := kc k59.out x1
    have a2 := kc k59.out x2
    have a3 := kc k59.out x3
    have s0 := kc k59.out r0
    have s1 := kc k59.out r1_
    have f0 := kf k59.out r0 y0
    have f1 := kf k59.out r1_ y1
    have hB9 : Kn (Below w.heap.size w w9) := ⟨below_step hB5.out k59.out⟩
    clear hx8 hw9 hg9 hb9 XS0 kc9 k59 HV8 XL x0 x1 x2 x3 r0 r1_ y0 y1 hB5 c6 c7 kB8 kB
    go_cut [10, 11] (fun v10 v11 W => Kn (Below w9.heap.size w9 W) ∧ v11 = .bool rb ∧ ∃ g, v10 = .pointer (some ⟨g, 0, none⟩) ∧ CL W [⟨g, 0, none⟩, ⟨g, 1, none⟩] [.int .i64 r1, .int .i64 r2])
    case first =>
      go_region_held3 (fun W => W.cell? ⟨g7, 0, none⟩ = some (.bool (decide (n0 < 0))) ∧ W.cell? ⟨g7, 1, none⟩ = some (.slice A0 (dig n0.natAbs).length c0) ∧ W.cell? ⟨g7, 2, none⟩ = some (.bool (decide (e0 < 0))) ∧ W.cell? ⟨g7, 3, none⟩ = some (.slice D0 (dig e0.natAbs).length d0) ∧ W.cell? ⟨g8, 0, none⟩ = some (.bool (decide (n8 < 0))) ∧ W.cell? ⟨g8, 1, none⟩ = some (.slice A8 (dig n8.natAbs).length c8) ∧ W.cell? ⟨g8, 2, none⟩ = some (.bool (decide (e8 < 0))) ∧ W.cell? ⟨g8, 3, none⟩ = some (.slice D8 (dig e8.natAbs).length d8) ∧ W.cell? ⟨g9, 0, none⟩ = some (.bool (decide (n9 < 0))) ∧ W.cell? ⟨g9, 1, none⟩ = some (.slice A9 (dig n9.natAbs).length c9) ∧ W.cell? ⟨g9, 2, none⟩ = some (.bool (decide (e9 < 0))) ∧ W.cell? ⟨g9, 3, none⟩ = some (.slice D9 (dig e9.natAbs).length d9) ∧ Kn (Below w9.heap.size w9 W)) (((repeat' apply And.intro) <;> first | infer_instance | exact kc (W := w9) Kn.out (by assumption))) (first | (go_at_call 67; (with_reducible refine (rproduct_any _ (fun _ => True) (fun _ => True) _ _ dn sh (X8.out.below ?hb).rf (XS.out.below ?hb2).rf FD.out FS.out).mono ?_); (case hb => exact Kn.out); (case hb2 => exact Kn.out); rintro e wP ⟨v, rfl, hv, hb⟩; rw [EP.out] at hv; obtain ⟨A1, D1, c1, d1, n1, e1, rfl, hx⟩ := hv; have XP := Aside0.mk hx.any; clear hx; have kB := kn_b (w0 := w9) hb; (try (have zC := kn_c (ps := [⟨w9.heap.size, 0, none⟩, ⟨w9.heap.size, 1, none⟩]) (vs := [.int .i64 0, .int .i64 0]) hb; have zF := kn_f (ps := [⟨w9.heap.size, 0, none⟩, ⟨w9.heap.size, 1, none⟩]) hb; obtain ⟨z0, z1, -⟩ := zC.out; obtain ⟨⟨-, y0⟩, ⟨-, y1⟩, -⟩ := zF.out; have zL : w9.heap.size < _ := World.block_lt_of_cell? _ _ z0)); clear hb) | (go_at_call 62; (with_reducible refine (rsum_any _ (fun _ => True) (fun _ => True) _ _ lo pr (X7.out.below ?hb).rf (XP.out.below ?hb2).rf FL.out FP.out).mono ?_); (case hb => exact Kn.out); (case hb2 => exact Kn.out); rintro e wA ⟨v, rfl, hv, hb⟩; rw [EA.out] at hv; obtain ⟨A2, D2, c2, d2, n2, e2, rfl, hx⟩ := hv; have XA := Aside0.mk hx.any; clear hx; have kB := kn_b (w0 := w9) hb; (try have kB_wP := kn_b (w0 := wP) hb); (try (have zC := kn_c (ps := [⟨w9.heap.size, 0, none⟩, ⟨w9.heap.size, 1, none⟩]) (vs := [.int .i64 0, .int .i64 0]) hb; have zF := kn_f (ps := [⟨w9.heap.size, 0, none⟩, ⟨w9.heap.size, 1, none⟩]) hb; obtain ⟨z0, z1, -⟩ := zC.out; obtain ⟨⟨-, y0⟩, ⟨-, y1⟩, -⟩ := zF.out; have zL : w9.heap.size < _ := World.block_lt_of_cell? _ _ z0)); (try (have zC := kn_c (ps := [⟨wP.heap.size, 0, none⟩, ⟨wP.heap.size, 1, none⟩]) (vs := [.int .i64 0, .int .i64 0]) hb; have zF := kn_f (ps := [⟨wP.heap.size, 0, none⟩, ⟨wP.heap.size, 1, none⟩]) hb; obtain ⟨z0, z1, -⟩ := zC.out; obtain ⟨⟨-, y0⟩, ⟨-, y1⟩, -⟩ := zF.out; have zL : wP.heap.size < _ := World.block_lt_of_cell? _ _ z0)); clear hb) | (go_at_call 66; (with_reducible refine (rnumber_any _ (fun _ => True) _ al (XA.out.below ?hb).rf).mono ?_); (case hb => exact Kn.out); rw [ER.out]; rintro e wN ⟨rfl, hb⟩; have kB := kn_b (w0 := w9) hb; (try (have zC := kn_c (ps := [⟨w9.heap.size, 0, none⟩, ⟨w9.heap.size, 1, none⟩]) (vs := [.int .i64 0, .int .i64 0]) hb; have zF := kn_f (ps := [⟨w9.heap.size, 0, none⟩, ⟨w9.heap.size, 1, none⟩]) hb; obtain ⟨z0, z1, -⟩ := zC.out; obtain ⟨⟨-, y0⟩, ⟨-, y1⟩, -⟩ := zF.out; have zL : w9.heap.size < _ := World.block_lt_of_cell? _ _ z0)); (try (have zC := kn_c (ps := [⟨wP.heap.size, 0, none⟩, ⟨wP.heap.size, 1, none⟩]) (vs := [.int .i64 0, .int .i64 0]) hb; have zF := kn_f (ps := [⟨wP.heap.size, 0, none⟩, ⟨wP.heap.size, 1, none⟩]) hb; obtain ⟨z0, z1, -⟩ := zC.out; obtain ⟨⟨-, y0⟩, ⟨-, y1⟩, -⟩ := zF.out; have zL : wP.heap.size < _ := World.block_lt_of_cell? _ _ z0)); (try (have zC := kn_c (ps := [⟨wA.heap.size, 0, none⟩, ⟨wA.heap.size, 1, none⟩]) (vs := [.int .i64 0, .int .i64 0]) hb; have zF := kn_f (ps := [⟨wA.heap.size, 0, none⟩, ⟨wA.heap.size, 1, none⟩]) hb; obtain ⟨z0, z1, -⟩ := zC.out; obtain ⟨⟨-, y0⟩, ⟨-, y1⟩, -⟩ := zF.out; have zL : wA.heap.size < _ := World.block_lt_of_cell? _ _ z0)); clear hb))
      all_goals (go_wp2_with fail)
      all_goals go_meet
      all_goals (refine ⟨inferInstance, rfl, _, rfl, ?_⟩)
      all_goals first
        | (with_reducible exact two_cl _ _ _ _)
        | (with_reducible exact cl_set2 zC)
    case rest =>
      obtain ⟨kB10, rfl, g10, rfl, hc10⟩ := hcut
      obtain ⟨x0, x1, -⟩ := hc10
      have q0 := kc kB10.out s0
      have q1 := kc kB10.out s1
      have y0 := kf kB10.out s0 f0
      have y1 := kf kB10.out s1 f1
      have hBf : Kn (Below w.heap.size w wc) := ⟨below_step hB9.out kB10.out⟩
      clear kB10 s0 s1 f0 f1 hB9
      cases rb with
      | false =>
        obtain ⟨rfl, rfl⟩ := HR0.out rfl
        go_wp2_with (go_at_call 50; (with_reducible refine (rnone_any _).mono ?_); rintro e wE ⟨rfl, hb⟩; have kE := kn_b (w0 := w) hb; have p0 := kc hb q0; have p1 := kc hb q1; have l0 := kf hb q0 y0; have l1 := kf hb q1 y1; clear hb)
        exact bodyPost_ret (v := .agg #[.int .i64 0, .int .i64 0]) (by simp [results, Try.results49, go_sem, p0, p1]) rfl ⟨rfl, below_set (below_set kE.out (Nat.le_succ _)) (Nat.le_succ _)⟩
      | true =>
        go_wp2
        exact bodyPost_ret (v := .agg #[.int .i64 r1, .int .i64 r2]) (by simp [results, Try.results49, go_sem, q0, q1]) rfl ⟨rfl, below_set (below_set hBf.out (Nat.le_succ _)) (Nat.le_succ _)⟩
end Go.Proofs.Ytlaidcoickeihaa.Nb
namespace Go.Proofs.Ytlaidcoickeihaa.Nb
open Go.RowKit Go.Proofs.Ytlaidcoickeihaa.Wd.PrintWords Go.Proofs.Ytlaidcoickeihaa.Wd.PrintLast Go.Proofs.Ytlaidcoickeihaa.Wd.PrintMore Go.Proofs.Ytlaidcoickeihaa.Big
def rfitsOf (m0 : ByteArray) (m1 m2 : Int) (x0 : ByteArray) (x1 x2 : Int) : Bool := (x0.toList == m0.toList || (m0.toList == ([111, 110] : List UInt8) && x0.toList == ([111, 102, 102] : List UInt8)) || (m0.toList == ([107, 101, 121] : List UInt8) && x0.toList == ([111, 110] : List UInt8))) && (m2 == (-1) || m2 == x2 || x0.toList == ([98, 101, 110, 100] : List UInt8)) && (m1 == (-1) || m1 == x1)
theorem fits_law (a b : List UInt8) (c d e : Bool) : ((b == a || (a == ([111, 110] : List UInt8) && b == ([111, 102, 102] : List UInt8)) || (a == ([107, 101, 121] : List UInt8) && b == ([111, 110] : List UInt8))) && (d || e || b == ([98, 101, 110, 100] : List UInt8)) && c) = ((b == a || (a == ([111, 110] : List UInt8) && b == ([111, 102, 102] : List UInt8)) || (a == ([107, 101, 121] : List UInt8) && b == ([111, 110] : List UInt8))) && c && (a == ([98, 101, 110, 100] : List UInt8) || d || e)) := by
  by_cases h1 : b = a
  · subst h1
    generalize (b == ([98, 101, 110, 100] : List UInt8)) = f
    cases c <;> cases d <;> cases e <;> cases f <;> simp
  · have e1 : (b == a) = false := beq_false_of_ne h1
    by_cases h2 : a = [111, 110]
    · subst h2
      by_cases h3 : b = [111, 102, 102]
      · subst h3; cases c <;> cases d <;> cases e <;> decide
      · have e3 : (b == [111, 102, 102]) = false := beq_false_of_ne h3
        rw [e1, e3]; simp
    · have e2 : (a == [111, 110]) = false := beq_false_of_ne h2
      by_cases h4 : a = [107, 101, 121]
      · subst h4
        by_cases h3 : b = [111, 110]
        · subst h3; cases c <;> cases d <;> cases e <;> decide
        · have e3 : (b == [111, 110]) = false := beq_false_of_ne h3
          rw [e1, e3]; simp
      · have e4 : (a == [107, 101, 121]) = false := beq_false_of_ne h4
        rw [e1, e2, e4]; simp
theorem rfits_eq (m0 : ByteArray) (m1 m2 : Int) (x0 : ByteArray) (x1 x2 : Int) : rfitsOf m0 m1 m2 x0 x1 x2 = fitsOf m0 m1 m2 x0 x1 x2 := fits_law _ _ _ _ _
set_option maxHeartbeats 8000000 in
set_option maxRecDepth 100000 in
theorem rfits_any0 (w : World) (m0 : ByteArray) (m1 m2 : Int) (m3 : ByteArray) (m4 m5 m6 m7 : Int) (m8 : Bool) (x0 : ByteArray) (x1 x2 x3 : Int) :
    Calls Try.prog 38 #[.agg #[.string m0, .int .i64 m1, .int .i64 m2, .string m3, .int .i64 m4, .int .i64 m5, .int .i64 m6, .int .i64 m7, .bool m8], .agg #[.string x0, .int .i64 x1, .int .i64 x2, .int .i64 x3]] w fun e w' => e = .returned (.bool (rfitsOf m0 m1 m2 x0 x1 x2)) ∧ Below w.heap.size w w' := by
  have hu49 := Try.underlying49
  have hu37 := Try.underlying37
  unfold rfitsOf
  obtain ⟨kb, hkb⟩ : ∃ b, (x0.toList == m0.toList || (m0.toList == ([111, 110] : List UInt8) && x0.toList == ([111, 102, 102] : List UInt8)) || (m0.toList == ([107, 101, 121] : List UInt8) && x0.toList == ([111, 110] : List UInt8))) = b := ⟨_, rfl⟩
  obtain ⟨xb, hxb⟩ : ∃ b, (m2 == (-1) || m2 == x2 || x0.toList == ([98, 101, 110, 100] : List UInt8)) = b := ⟨_, rfl⟩
  rw [hkb, hxb]
  go_enter Try.func38, Try.ntmps38
  go_upto_region 1 with fail
  obtain ⟨w3, hw3⟩ : ∃ W, W = (w.alloc (.cells #[.string m0, .int .i64 m1, .int .i64 m2, .string m3, .int .i64 m4, .int .i64 m5, .int .i64 m6, .int .i64 m7, .bool m8] 49)).alloc (.cells #[.string x0, .int .i64 x1, .int .i64 x2, .int .i64 x3] 37) := ⟨_, rfl⟩
  rw [← hw3]
  have hC : Kn (CL w3 [⟨w.heap.size, 0, none⟩, ⟨w.heap.size, 1, none⟩, ⟨w.heap.size, 2, none⟩, ⟨w.heap.size, 3, none⟩, ⟨w.heap.size, 4, none⟩, ⟨w.heap.size, 5, none⟩, ⟨w.heap.size, 6, none⟩, ⟨w.heap.size, 7, none⟩, ⟨w.heap.size, 8, none⟩, ⟨w.heap.size + 1, 0, none⟩, ⟨w.heap.size + 1, 1, none⟩, ⟨w.heap.size + 1, 2, none⟩, ⟨w.heap.size + 1, 3, none⟩] [.string m0, .int .i64 m1, .int .i64 m2, .string m3, .int .i64 m4, .int .i64 m5, .int .i64 m6, .int .i64 m7, .bool m8, .string x0, .int .i64 x1, .int .i64 x2, .int .i64 x3]) := by rw [hw3]; infer_instance
  have hB : Kn (Below w.heap.size w w3) := by rw [hw3]; infer_instance
  clear hw3
  obtain ⟨c0, c1, c2, c3, c4, c5, c6, c7, c8, c9, c10, c11, c12, -⟩ := hC.out
  clear hC
  go_cut [5] (fun v5 W => v5 = .bool kb ∧ W = w3)
  case first =>
    subst hkb
    obtain ⟨b1, e_b1⟩ : ∃ b, (x0.toList == m0.toList) = b := ⟨_, rfl⟩
    obtain ⟨b2, e_b2⟩ : ∃ b, (m0.toList == ([111, 110] : List UInt8)) = b := ⟨_, rfl⟩
    obtain ⟨b3, e_b3⟩ : ∃ b, (x0.toList == ([111, 102, 102] : List UInt8)) = b := ⟨_, rfl⟩
    obtain ⟨b4, e_b4⟩ : ∃ b, (m0.toList == ([107, 101, 121] : List UInt8)) = b := ⟨_, rfl⟩
    obtain ⟨b5, e_b5⟩ : ∃ b, (x0.toList == ([111, 110] : List UInt8)) = b := ⟨_, rfl⟩
    rcases (show (b1 = true) ∨ (b1 = false ∧ b2 = true ∧ b3 = true) ∨ (b1 = false ∧ b2 = true ∧ b3 = false ∧ b4 = true ∧ b5 = true) ∨ (b1 = false ∧ b2 = true ∧ b3 = false ∧ b4 = true ∧ b5 = false) ∨ (b1 = false ∧ b2 = true ∧ b3 = false ∧ b4 = false) ∨ (b1 = false ∧ b2 = false ∧ b4 = true ∧ b5 = true) ∨ (b1 = false ∧ b2 = false ∧ b4 = true ∧ b5 = false) ∨ (b1 = false ∧ b2 = false ∧ b4 = false) by cases b1 <;> cases b2 <;> cases b3 <;> cases b4 <;> cases b5 <;> simp) with rfl | ⟨rfl, rfl, rfl⟩ | ⟨rfl, rfl, rfl, rfl, rfl⟩ | ⟨rfl, rfl, rfl, rfl, rfl⟩ | ⟨rfl, rfl, rfl, rfl⟩ | ⟨rfl, rfl, rfl, rfl⟩ | ⟨rfl, rfl, rfl, rfl⟩ | ⟨rfl, rfl, rfl⟩ <;>
      (go_wp2
       go_meet
       exact ⟨by simp [*], rfl⟩)
  case rest =>
    obtain ⟨rfl, hw⟩ := hcut
    obtain rfl : w3 = wc := hw.symm
    clear hw hkb
    go_upto_region 2 with fail
    go_cut [6] (fun v6 W => v6 = .bool xb ∧ W = w3)
    case first =>
      subst hxb
      obtain ⟨b9, e_b9⟩ : ∃ b, (m2 == (-1)) = b := ⟨_, rfl⟩
      obtain ⟨b10, e_b10⟩ : ∃ b, (m2 == x2) = b := ⟨_, rfl⟩
      obtain ⟨b11, e_b11⟩ : ∃ b, (x0.toList == ([98, 101, 110, 100] : List UInt8)) = b := ⟨_, rfl⟩
      rcases (show (b9 = true) ∨ (b9 = false ∧ b10 = true) ∨ (b9 = false ∧ b10 = false ∧ b11 = true) ∨ (b9 = false ∧ b10 = false ∧ b11 = false) by cases b9 <;> cases b10 <;> cases b11 <;> simp) with rfl | ⟨rfl, rfl⟩ | ⟨rfl, rfl, rfl⟩ | ⟨rfl, rfl, rfl⟩ <;>
        (go_wp2
         go_meet
         exact ⟨by simp [*], rfl⟩)
    case rest =>
      obtain ⟨rfl, hw⟩ := hcut
      obtain rfl : w3 = wc := hw.symm
      clear hw hxb
      obtain ⟨b6, e_b6⟩ : ∃ b, (m1 == (-1)) = b := ⟨_, rfl⟩
      obtain ⟨b7, e_b7⟩ : ∃ b, (m1 == x1) = b := ⟨_, rfl⟩
      cases kb <;> cases xb <;> rcases (show (b6 = true) ∨ (b6 = false ∧ b7 = true) ∨ (b6 = false ∧ b7 = false) by cases b6 <;> cases b7 <;> simp) with rfl | ⟨rfl, rfl⟩ | ⟨rfl, rfl⟩ <;>
        (go_wp2
         go_ret
         exact ⟨by simp [*], hB.out⟩)
theorem rfits_any (w : World) (m0 : ByteArray) (m1 m2 : Int) (m3 : ByteArray) (m4 m5 m6 m7 : Int) (m8 : Bool) (x0 : ByteArray) (x1 x2 x3 : Int) :
    Calls Try.prog 38 #[.agg #[.string m0, .int .i64 m1, .int .i64 m2, .string m3, .int .i64 m4, .int .i64 m5, .int .i64 m6, .int .i64 m7, .bool m8], .agg #[.string x0, .int .i64 x1, .int .i64 x2, .int .i64 x3]] w fun e w' => e = .returned (.bool (fitsOf m0 m1 m2 x0 x1 x2)) ∧ Below w.heap.size w w' := by
  have h := rfits_any0 w m0 m1 m2 m3 m4 m5 m6 m7 m8 x0 x1 x2 x3
  rw [rfits_eq] at h
  exact h
end Go.Proofs.Ytlaidcoickeihaa.Nb
namespace Go.Proofs.Ytlaidcoickeihaa.Nb
open Go.RowKit Go.Proofs.Ytlaidcoickeihaa.Wd.PrintWords Go.Proofs.Ytlaidcoickeihaa.Wd.PrintLast Go.Proofs.Ytlaidcoickeihaa.Wd.PrintMore Go.Proofs.Ytlaidcoickeihaa.Big Go.Proofs.Ytlaidcoickeihaa.Plain
set_option synthInstance.maxSize 2000
set_option synthInstance.maxHeartbeats 400000
def BV (W : World) (g : Nat) (q : Rat) : Prop :=
  ∃ A D c d n dd, CL W [⟨g, 0, none⟩, ⟨g, 1, none⟩, ⟨g, 2, none⟩, ⟨g, 3, none⟩] [.bool (decide (n < 0)), .slice A (dig n.natAbs).length c, .bool (decide (dd < 0)), .slice D (dig dd.natAbs).length d] ∧ Parts W (fun _ => True) q A D c d n dd
theorem BV.below {W W1 : World} {g : Nat} {q : Rat} (h : BV W g q) (hb : Below W.heap.size W W1) : BV W1 g q := by
  obtain ⟨A, D, c, d, n, dd, h1, h2⟩ := h
  exact ⟨A, D, c, d, n, dd, cl_below hb h1, h2.below hb⟩
instance (priority := low) kn_le1 (a b : Nat) [h : Kn (a ≤ b)] : Kn (a ≤ b + 1) := ⟨Nat.le_succ_of_le h.out⟩
theorem Parts.any {w : World} {ok : Nat → Prop} {q : Rat} {A B : Option Addr} {c d : Nat} {n dd : Int} (h : Parts w ok q A B c d n dd) : Parts w (fun _ => True) q A B c d n dd := h.mono fun _ _ => trivial
theorem BV.new {W : World} {ok : Nat → Prop} {q : Rat} {A B : Option Addr} {c d : Nat} {n dd : Int} (T : TypeId) (h : Parts W ok q A B c d n dd) : BV (W.alloc (.cells #[.bool (decide (n < 0)), .slice A (dig n.natAbs).length c, .bool (decide (dd < 0)), .slice B (dig dd.natAbs).length d] T)) W.heap.size q :=
  ⟨A, B, c, d, n, dd, cl_c (c_new rfl rfl) (cl_c (c_new rfl rfl) (cl_c (c_new rfl rfl) (cl_c (c_new rfl rfl) (cl_n _)))), (h.below (below_alloc (Below.refl _ _) _)).any⟩
theorem BV.new' {W : World} {ok : Nat → Prop} {q : Rat} {A B : Option Addr} {c d : Nat} {n dd : Int} (o : Obj) (T : TypeId) (h : Parts W ok q A B c d n dd) : BV ((W.alloc o).alloc (.cells #[.bool (decide (n < 0)), .slice A (dig n.natAbs).length c, .bool (decide (dd < 0)), .slice B (dig dd.natAbs).length d] T)) (W.heap.size + 1) q :=
  ⟨A, B, c, d, n, dd, cl_c (c_new (by simp) rfl) (cl_c (c_new (by simp) rfl) (cl_c (c_new (by simp) rfl) (cl_c (c_new (by simp) rfl) (cl_n _)))), ((h.below (below_alloc (Below.refl _ _) _)).below (below_alloc (Below.refl _ _) _)).any⟩
theorem BV.alloc {W : World} {g : Nat} {q : Rat} (h : BV W g q) (o : Obj) : BV (W.alloc o) g q := h.below (below_alloc (Below.refl _ _) _)
theorem BV.own {W : World} {ok : Nat → Prop} {q : Rat} {A B : Option Addr} {c d : Nat} {n dd : Int} {g : Nat} {a0 a1 a2 a3 : Value} (hC : Kn (CL W [⟨g, 0, none⟩, ⟨g, 1, none⟩, ⟨g, 2, none⟩, ⟨g, 3, none⟩] [a0, a1, a2, a3])) (h : Parts W ok q A B c d n dd) (hg : ¬ ok g) : BV ((((W.setCell ⟨g, 0, none⟩ (.bool (decide (n < 0)))).setCell ⟨g, 1, none⟩ (.slice A (dig n.natAbs).length c)).setCell ⟨g, 2, none⟩ (.bool (decide (dd < 0)))).setCell ⟨g, 3, none⟩ (.slice B (dig dd.natAbs).length d)) g q :=
  ⟨A, B, c, d, n, dd, cl_set4 hC.out, (h.set4 hg _ _ _ _).any⟩
theorem cl_other {W : World} {g h : Nat} {vs : List Value} (hne : g ≠ h) {u0 u1 u2 u3 : Value} (hC : CL W [⟨g, 0, none⟩, ⟨g, 1, none⟩, ⟨g, 2, none⟩, ⟨g, 3, none⟩] vs) : CL ((((W.setCell ⟨h, 0, none⟩ u0).setCell ⟨h, 1, none⟩ u1).setCell ⟨h, 2, none⟩ u2).setCell ⟨h, 3, none⟩ u3) [⟨g, 0, none⟩, ⟨g, 1, none⟩, ⟨g, 2, none⟩, ⟨g, 3, none⟩] vs := by
  have hall : ∀ i v, W.cell? ⟨g, i, none⟩ = some v → ((((W.setCell ⟨h, 0, none⟩ u0).setCell ⟨h, 1, none⟩ u1).setCell ⟨h, 2, none⟩ u2).setCell ⟨h, 3, none⟩ u3).cell? ⟨g, i, none⟩ = some v := fun i v hv => kset hne (kset hne (kset hne (kset hne hv)))
  match vs, hC with
  | [], _ => unfold CL; trivial
  | [_], hC => exact ⟨hall _ _ hC.1, by unfold CL; trivial⟩
  | [_, _], hC => exact ⟨hall _ _ hC.1, hall _ _ hC.2.1, by unfold CL; trivial⟩
  | [_, _, _], hC => exact ⟨hall _ _ hC.1, hall _ _ hC.2.1, hall _ _ hC.2.2.1, by unfold CL; trivial⟩
  | _ :: _ :: _ :: _ :: _, hC => exact ⟨hall _ _ hC.1, hall _ _ hC.2.1, hall _ _ hC.2.2.1, hall _ _ hC.2.2.2.1, by unfold CL; trivial⟩
theorem BV.own_other {W : World} {ok : Nat → Prop} {q : Rat} {A B : Option Addr} {c d : Nat} {n dd : Int} {g h' : Nat} {a0 a1 a2 a3 u0 u1 u2 u3 : Value} (hC : Kn (CL W [⟨g, 0, none⟩, ⟨g, 1, none⟩, ⟨g, 2, none⟩, ⟨g, 3, none⟩] [a0, a1, a2, a3])) (h : Parts W ok q A B c d n dd) (hg : ¬ ok g) (hh : ¬ ok h') (hne : g ≠ h') : BV ((((((((W.setCell ⟨g, 0, none⟩ (.bool (decide (n < 0)))).setCell ⟨g, 1, none⟩ (.slice A (dig n.natAbs).length c)).setCell ⟨g, 2, none⟩ (.bool (decide (dd < 0)))).setCell ⟨g, 3, none⟩ (.slice B (dig dd.natAbs).length d)).setCell ⟨h', 0, none⟩ u0).setCell ⟨h', 1, none⟩ u1).setCell ⟨h', 2, none⟩ u2).setCell ⟨h', 3, none⟩ u3) g q :=
  ⟨A, B, c, d, n, dd, cl_other hne (cl_set4 hC.out), ((h.set4 hg _ _ _ _).set4 hh _ _ _ _).any⟩
theorem BV.other_own {W : World} {ok : Nat → Prop} {q : Rat} {A B : Option Addr} {c d : Nat} {n dd : Int} {g h' : Nat} {a0 a1 a2 a3 u0 u1 u2 u3 : Value} (hC : Kn (CL W [⟨g, 0, none⟩, ⟨g, 1, none⟩, ⟨g, 2, none⟩, ⟨g, 3, none⟩] [a0, a1, a2, a3])) (h : Parts W ok q A B c d n dd) (hg : ¬ ok g) (hh : ¬ ok h') (hne : g ≠ h') : BV ((((((((W.setCell ⟨h', 0, none⟩ u0).setCell ⟨h', 1, none⟩ u1).setCell ⟨h', 2, none⟩ u2).setCell ⟨h', 3, none⟩ u3).setCell ⟨g, 0, none⟩ (.bool (decide (n < 0)))).setCell ⟨g, 1, none⟩ (.slice A (dig n.natAbs).length c)).setCell ⟨g, 2, none⟩ (.bool (decide (dd < 0)))).setCell ⟨g, 3, none⟩ (.slice B (dig dd.natAbs).length d)) g q :=
  ⟨A, B, c, d, n, dd, cl_set4 (cl_other hne hC.out), ((h.set4 hh _ _ _ _).set4 hg _ _ _ _).any⟩
theorem BV.new_other {W : World} {ok : Nat → Prop} {q : Rat} {A B : Option Addr} {c d : Nat} {n dd : Int} {h' : Nat} {u0 u1 u2 u3 : Value} (T : TypeId) (h : Parts W ok q A B c d n dd) (hh : ¬ ok h') : BV (((((W.setCell ⟨h', 0, none⟩ u0).setCell ⟨h', 1, none⟩ u1).setCell ⟨h', 2, none⟩ u2).setCell ⟨h', 3, none⟩ u3).alloc (.cells #[.bool (decide (n < 0)), .slice A (dig n.natAbs).length c, .bool (decide (dd < 0)), .slice B (dig dd.natAbs).length d] T)) W.heap.size q :=
  ⟨A, B, c, d, n, dd, cl_c (c_new (by simp) rfl) (cl_c (c_new (by simp) rfl) (cl_c (c_new (by simp) rfl) (cl_c (c_new (by simp) rfl) (cl_n _)))), ((h.set4 hh _ _ _ _).below (below_alloc (Below.refl _ _) _)).any⟩
theorem not_in {a b g : Nat} (h : g < a ∨ b ≤ g) : ¬ (a ≤ g ∧ g < b) := by omega
set_option maxHeartbeats 8000000 in
set_option maxRecDepth 100000 in
theorem value_share (hi : IsCalls isQ) (hk : MakeCalls mk) (w : World) (k m3 x0 : ByteArray) (m1 m2 m4 m5 m6 m7 x1 x2 x3 : Int) (m8 : Bool) (n top : Int) (h4 : In64 m4) (h5 : In64 m5) (h6 : In64 m6) (h7 : In64 m7) (hn : In64 n) (bw : Bool) (ht : top = if bw = true then 16383 else 127) (hbw : (k.toList == ([98, 101, 110, 100] : List UInt8) || k.toList == ([119, 105, 100, 101] : List UInt8)) = bw) (hkey : (k.toList == ([107, 101, 121] : List UInt8)) = false) (bo bn : Bool) (hbo : (x0.toList == ([111, 102, 102] : List UInt8)) = bo) (hbn : (x0.toList == ([111, 110] : List UInt8)) = bn) (hnn : n = if (m8 && bo) = true then 0 else if (m8 && bn) = true then top else x3) (hno : (!m8 && bo) = false) :
    Calls Try.prog 36 #[.agg #[.string k, .int .i64 m1, .int .i64 m2, .string m3, .int .i64 m4, .int .i64 m5, .int .i64 m6, .int .i64 m7, .bool m8], .agg #[.string x0, .int .i64 x1, .int .i64 x2, .int .i64 x3]] w fun e w' => e = .returned (.tuple #[.agg #[.int .i64 (shareOf m4 m5 m6 m7 n top).1.1, .int .i64 (shareOf m4 m5 m6 m7 n top).1.2], .bool (shareOf m4 m5 m6 m7 n top).2]) ∧ Below w.heap.size w w' := by
  unfold shareOf part
  have hsl := Sm.ofQ isQ_good h4 h5
  have hsh := Sm.ofQ isQ_good h6 h7
  obtain ⟨lo, hlo⟩ : ∃ q, ofQ isQ m4 m5 = q := ⟨_, rfl⟩
  obtain ⟨up, hup⟩ : ∃ q, ofQ isQ m6 m7 = q := ⟨_, rfl⟩
  have hmb := mk_bounds n top
  obtain ⟨⟨g1, g2⟩, hmk⟩ : ∃ r, mk n top = r := ⟨_, rfl⟩
  rw [hmk] at hmb
  simp only [hlo, hup, hmk]
  simp only at hmb
  have hG1 : -9223372036854775808 ≤ g1 ∧ g1 ≤ 9223372036854775807 := by omega
  have hG2 : -9223372036854775808 ≤ g2 ∧ g2 ≤ 9223372036854775807 := by omega
  have hss := Sm.ofQ isQ_good hG1 hG2
  obtain ⟨sh, hsd⟩ : ∃ q, ofQ isQ g1 g2 = q := ⟨_, rfl⟩
  rw [hlo] at hsl
  rw [hup] at hsh
  rw [hsd] at hss
  simp only [hsd]
  obtain ⟨dn, hdn⟩ : ∃ q, up - lo = q := ⟨_, rfl⟩
  have hsdn : Sm 129 dn := by rw [← hdn, Rat.sub_eq_add_neg]; exact hsh.add hsl.neg
  simp only [hdn]
  obtain ⟨pr, hpr⟩ : ∃ q, dn * sh = q := ⟨_, rfl⟩
  have hspr := hsdn.mul hss
  rw [hpr] at hspr
  simp only [hpr]
  obtain ⟨al, hal⟩ : ∃ q, lo + pr = q := ⟨_, rfl⟩
  simp only [hal]
  obtain ⟨⟨⟨r1, r2⟩, rb⟩, hr⟩ : ∃ r, toQ isQ mk al = r := ⟨_, rfl⟩
  simp only [hr]
  have HI := Aside0.mk hi
  have HK := Aside0.mk hk
  have HG := Aside0.mk isQ_good
  have H4 : Aside0 (-9223372036854775808 ≤ m4 ∧ m4 ≤ 9223372036854775807) := ⟨h4⟩
  have H5 : Aside0 (-9223372036854775808 ≤ m5 ∧ m5 ≤ 9223372036854775807) := ⟨h5⟩
  have H6 : Aside0 (-9223372036854775808 ≤ m6 ∧ m6 ≤ 9223372036854775807) := ⟨h6⟩
  have H7 : Aside0 (-9223372036854775808 ≤ m7 ∧ m7 ≤ 9223372036854775807) := ⟨h7⟩
  have HN : Aside0 (-9223372036854775808 ≤ n ∧ n ≤ 9223372036854775807) := ⟨hn⟩
  have HT : Aside0 (-9223372036854775808 ≤ top ∧ top ≤ 9223372036854775807) := ⟨by rw [ht]; split <;> omega⟩
  have G1 := Aside0.mk hG1
  have G2 := Aside0.mk hG2
  have EL := Aside0.mk hlo
  have EU := Aside0.mk hup
  have EM := Aside0.mk hmk
  have ES := Aside0.mk hsd
  have ED := Aside0.mk hdn
  have EP := Aside0.mk hpr
  have EA := Aside0.mk hal
  have ER := Aside0.mk hr
  have FL := Aside0.mk (hsl.fit (by decide))
  have FU := Aside0.mk (hsh.fit (by decide))
  have FS := Aside0.mk (hss.fit (by decide))
  have FD := Aside0.mk (hsdn.fit (by decide))
  have FP := Aside0.mk (hspr.fit (by decide))
  have MB := Aside0.mk (fun n d => (by have := mk_bounds n d; omega : (-9223372036854775808 ≤ (mk n d).1 ∧ (mk n d).1 ≤ 9223372036854775807) ∧ (-9223372036854775808 ≤ (mk n d).2 ∧ (mk n d).2 ≤ 9223372036854775807)))
  clear hi hk h4 h5 h6 h7 hn hsl hsh hss hsdn hspr hr hal hpr hdn hsd hmk hup hlo hmb hG1 hG2
  have hu48 := Try.underlying48
  have hu37 := Try.underlying37
  go_enter Try.func36, Try.ntmps36
  go_upto_region 1 with fail
  obtain ⟨w3, hw3⟩ : ∃ W, W = ((w.alloc (.cells #[.string k, .int .i64 m1, .int .i64 m2, .string m3, .int .i64 m4, .int .i64 m5, .int .i64 m6, .int .i64 m7, .bool m8] 48)).alloc (.cells #[.string x0, .int .i64 x1, .int .i64 x2, .int .i64 x3] 37)).alloc (.cells #[.int .i64 0, .int .i64 0] 46) := ⟨_, rfl⟩
  rw [← hw3]
  have hC : Kn (CL w3 [⟨w.heap.size, 0, none⟩, ⟨w.heap.size, 1, none⟩, ⟨w.heap.size, 2, none⟩, ⟨w.heap.size, 3, none⟩, ⟨w.heap.size, 4, none⟩, ⟨w.heap.size, 5, none⟩, ⟨w.heap.size, 6, none⟩, ⟨w.heap.size, 7, none⟩, ⟨w.heap.size, 8, none⟩, ⟨w.heap.size + 1, 0, none⟩, ⟨w.heap.size + 1, 1, none⟩, ⟨w.heap.size + 1, 2, none⟩, ⟨w.heap.size + 1, 3, none⟩, ⟨w.heap.size + 1 + 1, 0, none⟩, ⟨w.heap.size + 1 + 1, 1, none⟩] [.string k, .int .i64 m1, .int .i64 m2, .string m3, .int .i64 m4, .int .i64 m5, .int .i64 m6, .int .i64 m7, .bool m8, .string x0, .int .i64 x1, .int .i64 x2, .int .i64 x3, .int .i64 0, .int .i64 0]) := by rw [hw3]; infer_instance
  have hF : Kn (FZ w3 [⟨w.heap.size + 1 + 1, 0, none⟩, ⟨w.heap.size + 1 + 1, 1, none⟩]) := by rw [hw3]; infer_instance
  have hB : Kn (Below w.heap.size w w3) := by rw [hw3]; infer_instance
  clear hw3
  obtain ⟨c0, c1, c2, c3, c4, c5, c6, c7, c8, c9, c10, c11, c12, c13, c14, -⟩ := hC.out
  obtain ⟨⟨-, f0⟩, ⟨-, f1⟩, -⟩ := hF.out
  go_upto_block 0 with (fail)
  go_cut [7] (fun v7 W => v7 = .int .i64 top ∧ W = w3)
  case first =>
    cases bw with
    | false =>
      obtain ⟨hb1, hb2⟩ := Bool.or_eq_false_iff.1 hbw
      subst ht
      go_wp2
      go_meet
      exact ⟨rfl, rfl⟩
    | true =>
      subst ht
      rcases Bool.or_eq_true_iff.1 hbw with hb1 | hb1
      · go_wp2
        go_meet
        exact ⟨rfl, rfl⟩
      · cases hb2 : (k.toList == ([98, 101, 110, 100] : List UInt8)) <;>
          (go_wp2
           go_meet
           exact ⟨rfl, rfl⟩)
  case rest =>
    obtain ⟨rfl, hw⟩ := hcut
    obtain rfl : w3 = wc := hw.symm
    clear hw hbw hkey
    go_upto_block 1 with (fail)
    go_cut [6] (fun v6 W => v6 = .int .i64 n ∧ W = w3)
    case first =>
      clear ht
      cases m8 <;> cases bo <;> cases bn <;> simp at hno hnn <;> subst hnn <;>
        (go_wp2
         go_meet
         exact ⟨rfl, rfl⟩)
    case rest =>
      obtain ⟨rfl, hw⟩ := hcut
      obtain rfl : w3 = wc := hw.symm
      clear ht hw hbo hbn hno hnn c0 c1 c2 c3 c8 c9 c10 c11 c12
      go_upto_region 12 with (fail)
      go_cut [8, 9] (fun v8 v9 W => Kn (Below w3.heap.size w3 W) ∧ ∃ g8 g9, v8 = .pointer (some ⟨g8, 0, none⟩) ∧ v9 = .pointer (some ⟨g9, 0, none⟩) ∧ BV W g8 lo ∧ BV W g9 up)
      case first =>
        go_region_held3 (fun W => W.cell? ⟨w.heap.size, 4, none⟩ = some (.int .i64 m4) ∧ W.cell? ⟨w.heap.size, 5, none⟩ = some (.int .i64 m5) ∧ W.cell? ⟨w.heap.size, 6, none⟩ = some (.int .i64 m6) ∧ W.cell? ⟨w.heap.size, 7, none⟩ = some (.int .i64 m7) ∧ Kn (Below w3.heap.size w3 W)) (((repeat' apply And.intro) <;> first | infer_instance | exact kc (W := w3) Kn.out (by assumption))) (first | (go_at_call 42; (with_reducible refine (ffrom_any isQ HI.out HG.out _ m4 m5 H4.out H5.out).mono ?_); rintro e wL ⟨v, rfl, hv, hb⟩; rw [EL.out] at hv; obtain ⟨A0, D0, i0, j0, n0, e0, rfl, hx⟩ := hv.low.parts; have XL := Aside0.mk hx; clear hx hv; have kB := kn_b (w0 := w3) hb; have hs := hb.size; (try simp at hs); (try (have zC := kn_c (ps := [⟨w3.heap.size, 0, none⟩, ⟨w3.heap.size, 1, none⟩, ⟨w3.heap.size, 2, none⟩, ⟨w3.heap.size, 3, none⟩]) (vs := [.bool false, .slice none 0 0, .bool false, .slice none 0 0]) hb; have zF := kn_f (ps := [⟨w3.heap.size, 0, none⟩, ⟨w3.heap.size, 1, none⟩, ⟨w3.heap.size, 2, none⟩, ⟨w3.heap.size, 3, none⟩]) hb; obtain ⟨z0, z1, z2, z3, -⟩ := zC.out; obtain ⟨⟨-, y0⟩, ⟨-, y1⟩, ⟨-, y2⟩, ⟨-, y3⟩, -⟩ := zF.out; have zL : w3.heap.size < _ := World.block_lt_of_cell? _ _ z0)); (try (have zC := kn_c (ps := [⟨w3.heap.size + 1, 0, none⟩, ⟨w3.heap.size + 1, 1, none⟩, ⟨w3.heap.size + 1, 2, none⟩, ⟨w3.heap.size + 1, 3, none⟩]) (vs := [.bool false, .slice none 0 0, .bool false, .slice none 0 0]) hb; have zF := kn_f (ps := [⟨w3.heap.size + 1, 0, none⟩, ⟨w3.heap.size + 1, 1, none⟩, ⟨w3.heap.size + 1, 2, none⟩, ⟨w3.heap.size + 1, 3, none⟩]) hb; obtain ⟨z0, z1, z2, z3, -⟩ := zC.out; obtain ⟨⟨-, y0⟩, ⟨-, y1⟩, ⟨-, y2⟩, ⟨-, y3⟩, -⟩ := zF.out; have zL : w3.heap.size + 1 < _ := World.block_lt_of_cell? _ _ z0)); clear hb) | (go_at_call 42; (with_reducible refine (ffrom_any isQ HI.out HG.out _ m6 m7 H6.out H7.out).mono ?_); rintro e wU ⟨v, rfl, hv, hb⟩; rw [EU.out] at hv; obtain ⟨A1, D1, i1, j1, n1, e1, rfl, hx⟩ := hv.low.parts; have XU := Aside0.mk hx; clear hx hv; have kB := kn_b (w0 := w3) hb; have hs := hb.size; (try simp at hs); (try have kB_wL := kn_b (w0 := wL) hb); (try (have zC := kn_c (ps := [⟨w3.heap.size, 0, none⟩, ⟨w3.heap.size, 1, none⟩, ⟨w3.heap.size, 2, none⟩, ⟨w3.heap.size, 3, none⟩]) (vs := [.bool false, .slice none 0 0, .bool false, .slice none 0 0]) hb; have zF := kn_f (ps := [⟨w3.heap.size, 0, none⟩, ⟨w3.heap.size, 1, none⟩, ⟨w3.heap.size, 2, none⟩, ⟨w3.heap.size, 3, none⟩]) hb; obtain ⟨z0, z1, z2, z3, -⟩ := zC.out; obtain ⟨⟨-, y0⟩, ⟨-, y1⟩, ⟨-, y2⟩, ⟨-, y3⟩, -⟩ := zF.out; have zL : w3.heap.size < _ := World.block_lt_of_cell? _ _ z0)); (try (have zC := kn_c (ps := [⟨w3.heap.size + 1, 0, none⟩, ⟨w3.heap.size + 1, 1, none⟩, ⟨w3.heap.size + 1, 2, none⟩, ⟨w3.heap.size + 1, 3, none⟩]) (vs := [.bool false, .slice none 0 0, .bool false, .slice none 0 0]) hb; have zF := kn_f (ps := [⟨w3.heap.size + 1, 0, none⟩, ⟨w3.heap.size + 1, 1, none⟩, ⟨w3.heap.size + 1, 2, none⟩, ⟨w3.heap.size + 1, 3, none⟩]) hb; obtain ⟨z0, z1, z2, z3, -⟩ := zC.out; obtain ⟨⟨-, y0⟩, ⟨-, y1⟩, ⟨-, y2⟩, ⟨-, y3⟩, -⟩ := zF.out; have zL : w3.heap.size + 1 < _ := World.block_lt_of_cell? _ _ z0)); (try (have zC := kn_c (ps := [⟨wL.heap.size, 0, none⟩, ⟨wL.heap.size, 1, none⟩, ⟨wL.heap.size, 2, none⟩, ⟨wL.heap.size, 3, none⟩]) (vs := [.bool false, .slice none 0 0, .bool false, .slice none 0 0]) hb; have zF := kn_f (ps := [⟨wL.heap.size, 0, none⟩, ⟨wL.heap.size, 1, none⟩, ⟨wL.heap.size, 2, none⟩, ⟨wL.heap.size, 3, none⟩]) hb; obtain ⟨z0, z1, z2, z3, -⟩ := zC.out; obtain ⟨⟨-, y0⟩, ⟨-, y1⟩, ⟨-, y2⟩, ⟨-, y3⟩, -⟩ := zF.out; have zL : wL.heap.size < _ := World.block_lt_of_cell? _ _ z0)); (try (have zC := kn_c (ps := [⟨wL.heap.size + 1, 0, none⟩, ⟨wL.heap.size + 1, 1, none⟩, ⟨wL.heap.size + 1, 2, none⟩, ⟨wL.heap.size + 1, 3, none⟩]) (vs := [.bool false, .slice none 0 0, .bool false, .slice none 0 0]) hb; have zF := kn_f (ps := [⟨wL.heap.size + 1, 0, none⟩, ⟨wL.heap.size + 1, 1, none⟩, ⟨wL.heap.size + 1, 2, none⟩, ⟨wL.heap.size + 1, 3, none⟩]) hb; obtain ⟨z0, z1, z2, z3, -⟩ := zC.out; obtain ⟨⟨-, y0⟩, ⟨-, y1⟩, ⟨-, y2⟩, ⟨-, y3⟩, -⟩ := zF.out; have zL : wL.heap.size + 1 < _ := World.block_lt_of_cell? _ _ z0)); clear hb))
        all_goals (go_wp2_with fail)
        all_goals go_meet
        all_goals (refine ⟨inferInstance, _, _, rfl, rfl, ?_, ?_⟩)
        all_goals first
          | (with_reducible exact BV.alloc (BV.new _ (XL.out.below kB_wL.out)) _)
          | (with_reducible exact BV.new' _ _ (XL.out.below kB_wL.out))
          | (with_reducible refine BV.alloc (BV.own (a0 := .bool false) (a1 := .slice none 0 0) (a2 := .bool false) (a3 := .slice none 0 0) (by infer_instance) (XL.out.below kB_wL.out) (not_in ?s0)) _; (case s0 => first | (left; omega) | (left; simp; done) | (left; simp; omega) | (right; omega) | (right; simp; omega)))
          | (with_reducible refine BV.new_other _ (XL.out.below kB_wL.out) (not_in ?s0); (case s0 => first | (left; omega) | (left; simp; done) | (left; simp; omega) | (right; omega) | (right; simp; omega)))
          | (with_reducible refine BV.own_other (a0 := .bool false) (a1 := .slice none 0 0) (a2 := .bool false) (a3 := .slice none 0 0) (by infer_instance) (XL.out.below kB_wL.out) (not_in ?s0) (not_in ?s1) (by omega); (case s0 => first | (left; omega) | (left; simp; done) | (left; simp; omega) | (right; omega) | (right; simp; omega)); (case s1 => first | (left; omega) | (left; simp; done) | (left; simp; omega) | (right; omega) | (right; simp; omega)))
          | (with_reducible refine BV.other_own (a0 := .bool false) (a1 := .slice none 0 0) (a2 := .bool false) (a3 := .slice none 0 0) (by infer_instance) (XL.out.below kB_wL.out) (not_in ?s0) (not_in ?s1) (by omega); (case s0 => first | (left; omega) | (left; simp; done) | (left; simp; omega) | (right; omega) | (right; simp; omega)); (case s1 => first | (left; omega) | (left; simp; done) | (left; simp; omega) | (right; omega) | (right; simp; omega)))
          | (with_reducible exact BV.alloc (BV.new _ XU.out) _)
          | (with_reducible exact BV.new' _ _ XU.out)
          | (with_reducible refine BV.alloc (BV.own (a0 := .bool false) (a1 := .slice none 0 0) (a2 := .bool false) (a3 := .slice none 0 0) (by infer_instance) XU.out (not_in ?s0)) _; (case s0 => first | (left; omega) | (left; simp; done) | (left; simp; omega) | (right; omega) | (right; simp; omega)))
          | (with_reducible refine BV.new_other _ XU.out (not_in ?s0); (case s0 => first | (left; omega) | (left; simp; done) | (left; simp; omega) | (right; omega) | (right; simp; omega)))
          | (with_reducible refine BV.own_other (a0 := .bool false) (a1 := .slice none 0 0) (a2 := .bool false) (a3 := .slice none 0 0) (by infer_instance) XU.out (not_in ?s0) (not_in ?s1) (by omega); (case s0 => first | (left; omega) | (left; simp; done) | (left; simp; omega) | (right; omega) | (right; simp; omega)); (case s1 => first | (left; omega) | (left; simp; done) | (left; simp; omega) | (right; omega) | (right; simp; omega)))
          | (with_reducible refine BV.other_own (a0 := .bool false) (a1 := .slice none 0 0) (a2 := .bool false) (a3 := .slice none 0 0) (by infer_instance) XU.out (not_in ?s0) (not_in ?s1) (by omega); (case s0 => first | (left; omega) | (left; simp; done) | (left; simp; omega) | (right; omega) | (right; simp; omega)); (case s1 => first | (left; omega) | (left; simp; done) | (left; simp; omega) | (right; omega) | (right; simp; omega)))
      case rest =>
        obtain ⟨k38, g8, g9, rfl, rfl, hv8, hv9⟩ := hcut
        obtain ⟨A0, D0, i0, j0, n0, e0, ⟨a0, a1, a2, a3, -⟩, hx8⟩ := hv8
        obtain ⟨A1, D1, i1, j1, n1, e1, ⟨b0, b1, b2, b3, -⟩, hx9⟩ := hv9
        have XL := Aside0.mk hx8
        have XU := Aside0.mk hx9
        have hBc : Kn (Below w.heap.size w wc) := ⟨below_step hB.out k38.out⟩
        have s0 := kc k38.out c13
        have s1 := kc k38.out c14
        have t0 := kf k38.out c13 f0
        have t1 := kf k38.out c14 f1
        clear hx8 hx9 hC hF hB c4 c5 c6 c7 c13 c14 f0 f1 k38
        go_upto_region 13 with (fail)
        go_cut [10, 11] (fun v10 v11 W => Kn (Below wc.heap.size wc W) ∧ v11 = .bool rb ∧ ∃ g, v10 = .pointer (some ⟨g, 0, none⟩) ∧ CL W [⟨g, 0, none⟩, ⟨g, 1, none⟩] [.int .i64 r1, .int .i64 r2])
        case first =>
          go_region_held3 (fun W => W.cell? ⟨g8, 0, none⟩ = some (.bool (decide (n0 < 0))) ∧ W.cell? ⟨g8, 1, none⟩ = some (.slice A0 (dig n0.natAbs).length i0) ∧ W.cell? ⟨g8, 2, none⟩ = some (.bool (decide (e0 < 0))) ∧ W.cell? ⟨g8, 3, none⟩ = some (.slice D0 (dig e0.natAbs).length j0) ∧ W.cell? ⟨g9, 0, none⟩ = some (.bool (decide (n1 < 0))) ∧ W.cell? ⟨g9, 1, none⟩ = some (.slice A1 (dig n1.natAbs).length i1) ∧ W.cell? ⟨g9, 2, none⟩ = some (.bool (decide (e1 < 0))) ∧ W.cell? ⟨g9, 3, none⟩ = some (.slice D1 (dig e1.natAbs).length j1) ∧ Kn (Below wc.heap.size wc W)) (((repeat' apply And.intro) <;> first | infer_instance | exact kc (W := wc) Kn.out (by assumption))) (first | (go_at_call 44; (with_reducible refine (fsub_any _ (fun _ => True) _ _ up lo (XU.out.below ?hb).bf (XL.out.below ?hb2).bf FU.out FL.out).mono ?_); (case hb => exact Kn.out); (case hb2 => exact Kn.out); rintro e wS ⟨v, rfl, hv, hb⟩; rw [ED.out] at hv; obtain ⟨A2, D2, i2, j2, n2, e2, rfl, hx⟩ := hv.parts; have XD := Aside0.mk hx.any; clear hx hv; have kB := kn_b (w0 := wc) hb; have hs := hb.size; (try simp at hs); (try (have zC := kn_c (ps := [⟨wc.heap.size, 0, none⟩, ⟨wc.heap.size, 1, none⟩]) (vs := [.int .i64 0, .int .i64 0]) hb; have zF := kn_f (ps := [⟨wc.heap.size, 0, none⟩, ⟨wc.heap.size, 1, none⟩]) hb; obtain ⟨z0, z1, -⟩ := zC.out; obtain ⟨⟨-, y0⟩, ⟨-, y1⟩, -⟩ := zF.out; have zL : wc.heap.size < _ := World.block_lt_of_cell? _ _ z0)); clear hb) | (go_at_call 41; (with_reducible refine (make_by HK.out _ n top HN.out HT.out (g1, g2) EM.out).mono ?_); rintro e wM ⟨rfl, hb⟩; have kB := kn_b (w0 := wc) hb; have hs := hb.size; (try simp at hs); (try have kB_wS := kn_b (w0 := wS) hb); (try (have zC := kn_c (ps := [⟨wc.heap.size, 0, none⟩, ⟨wc.heap.size, 1, none⟩]) (vs := [.int .i64 0, .int .i64 0]) hb; have zF := kn_f (ps := [⟨wc.heap.size, 0, none⟩, ⟨wc.heap.size, 1, none⟩]) hb; obtain ⟨z0, z1, -⟩ := zC.out; obtain ⟨⟨-, y0⟩, ⟨-, y1⟩, -⟩ := zF.out; have zL : wc.heap.size < _ := World.block_lt_of_cell? _ _ z0)); (try (have zC := kn_c (ps := [⟨wS.heap.size, 0, none⟩, ⟨wS.heap.size, 1, none⟩]) (vs := [.int .i64 0, .int .i64 0]) hb; have zF := kn_f (ps := [⟨wS.heap.size, 0, none⟩, ⟨wS.heap.size, 1, none⟩]) hb; obtain ⟨z0, z1, -⟩ := zC.out; obtain ⟨⟨-, y0⟩, ⟨-, y1⟩, -⟩ := zF.out; have zL : wS.heap.size < _ := World.block_lt_of_cell? _ _ z0)); clear hb) | (go_at_call 42; (with_reducible refine (ffrom_any isQ HI.out HG.out _ g1 g2 G1.out G2.out).mono ?_); rintro e wF ⟨v, rfl, hv, hb⟩; rw [ES.out] at hv; obtain ⟨A3, D3, i3, j3, n3, e3, rfl, hx⟩ := hv.parts; have XS := Aside0.mk hx.any; clear hx hv; have kB := kn_b (w0 := wc) hb; have hs := hb.size; (try simp at hs); (try have kB_wS := kn_b (w0 := wS) hb); (try (have zC := kn_c (ps := [⟨wc.heap.size, 0, none⟩, ⟨wc.heap.size, 1, none⟩]) (vs := [.int .i64 0, .int .i64 0]) hb; have zF := kn_f (ps := [⟨wc.heap.size, 0, none⟩, ⟨wc.heap.size, 1, none⟩]) hb; obtain ⟨z0, z1, -⟩ := zC.out; obtain ⟨⟨-, y0⟩, ⟨-, y1⟩, -⟩ := zF.out; have zL : wc.heap.size < _ := World.block_lt_of_cell? _ _ z0)); (try (have zC := kn_c (ps := [⟨wS.heap.size, 0, none⟩, ⟨wS.heap.size, 1, none⟩]) (vs := [.int .i64 0, .int .i64 0]) hb; have zF := kn_f (ps := [⟨wS.heap.size, 0, none⟩, ⟨wS.heap.size, 1, none⟩]) hb; obtain ⟨z0, z1, -⟩ := zC.out; obtain ⟨⟨-, y0⟩, ⟨-, y1⟩, -⟩ := zF.out; have zL : wS.heap.size < _ := World.block_lt_of_cell? _ _ z0)); (try (have zC := kn_c (ps := [⟨wM.heap.size, 0, none⟩, ⟨wM.heap.size, 1, none⟩]) (vs := [.int .i64 0, .int .i64 0]) hb; have zF := kn_f (ps := [⟨wM.heap.size, 0, none⟩, ⟨wM.heap.size, 1, none⟩]) hb; obtain ⟨z0, z1, -⟩ := zC.out; obtain ⟨⟨-, y0⟩, ⟨-, y1⟩, -⟩ := zF.out; have zL : wM.heap.size < _ := World.block_lt_of_cell? _ _ z0)); clear hb) | (go_at_call 45; (with_reducible refine (fmul_any _ (fun _ => True) _ _ dn sh (XD.out.below ?hb).bf (XS.out.below ?hb2).bf FD.out FS.out).mono ?_); (case hb => exact Kn.out); (case hb2 => exact Kn.out); rintro e wP ⟨v, rfl, hv, hb⟩; rw [EP.out] at hv; obtain ⟨A4, D4, i4, j4, n4, e4, rfl, hx⟩ := hv.parts; have XP := Aside0.mk hx.any; clear hx hv; have kB := kn_b (w0 := wc) hb; have hs := hb.size; (try simp at hs); (try (have zC := kn_c (ps := [⟨wc.heap.size, 0, none⟩, ⟨wc.heap.size, 1, none⟩]) (vs := [.int .i64 0, .int .i64 0]) hb; have zF := kn_f (ps := [⟨wc.heap.size, 0, none⟩, ⟨wc.heap.size, 1, none⟩]) hb; obtain ⟨z0, z1, -⟩ := zC.out; obtain ⟨⟨-, y0⟩, ⟨-, y1⟩, -⟩ := zF.out; have zL : wc.heap.size < _ := World.block_lt_of_cell? _ _ z0)); (try (have zC := kn_c (ps := [⟨wS.heap.size, 0, none⟩, ⟨wS.heap.size, 1, none⟩]) (vs := [.int .i64 0, .int .i64 0]) hb; have zF := kn_f (ps := [⟨wS.heap.size, 0, none⟩, ⟨wS.heap.size, 1, none⟩]) hb; obtain ⟨z0, z1, -⟩ := zC.out; obtain ⟨⟨-, y0⟩, ⟨-, y1⟩, -⟩ := zF.out; have zL : wS.heap.size < _ := World.block_lt_of_cell? _ _ z0)); (try (have zC := kn_c (ps := [⟨wM.heap.size, 0, none⟩, ⟨wM.heap.size, 1, none⟩]) (vs := [.int .i64 0, .int .i64 0]) hb; have zF := kn_f (ps := [⟨wM.heap.size, 0, none⟩, ⟨wM.heap.size, 1, none⟩]) hb; obtain ⟨z0, z1, -⟩ := zC.out; obtain ⟨⟨-, y0⟩, ⟨-, y1⟩, -⟩ := zF.out; have zL : wM.heap.size < _ := World.block_lt_of_cell? _ _ z0)); (try (have zC := kn_c (ps := [⟨wF.heap.size, 0, none⟩, ⟨wF.heap.size, 1, none⟩]) (vs := [.int .i64 0, .int .i64 0]) hb; have zF := kn_f (ps := [⟨wF.heap.size, 0, none⟩, ⟨wF.heap.size, 1, none⟩]) hb; obtain ⟨z0, z1, -⟩ := zC.out; obtain ⟨⟨-, y0⟩, ⟨-, y1⟩, -⟩ := zF.out; have zL : wF.heap.size < _ := World.block_lt_of_cell? _ _ z0)); clear hb) | (go_at_call 43; (with_reducible refine (fadd_any _ (fun _ => True) _ _ lo pr (XL.out.below ?hb).bf (XP.out.below ?hb2).bf FL.out FP.out).mono ?_); (case hb => exact Kn.out); (case hb2 => exact Kn.out); rintro e wA ⟨v, rfl, hv, hb⟩; rw [EA.out] at hv; obtain ⟨A5, D5, i5, j5, n5, e5, rfl, hx⟩ := hv.parts; have XA := Aside0.mk hx.any; clear hx hv; have kB := kn_b (w0 := wc) hb; have hs := hb.size; (try simp at hs); (try (have zC := kn_c (ps := [⟨wc.heap.size, 0, none⟩, ⟨wc.heap.size, 1, none⟩]) (vs := [.int .i64 0, .int .i64 0]) hb; have zF := kn_f (ps := [⟨wc.heap.size, 0, none⟩, ⟨wc.heap.size, 1, none⟩]) hb; obtain ⟨z0, z1, -⟩ := zC.out; obtain ⟨⟨-, y0⟩, ⟨-, y1⟩, -⟩ := zF.out; have zL : wc.heap.size < _ := World.block_lt_of_cell? _ _ z0)); (try (have zC := kn_c (ps := [⟨wS.heap.size, 0, none⟩, ⟨wS.heap.size, 1, none⟩]) (vs := [.int .i64 0, .int .i64 0]) hb; have zF := kn_f (ps := [⟨wS.heap.size, 0, none⟩, ⟨wS.heap.size, 1, none⟩]) hb; obtain ⟨z0, z1, -⟩ := zC.out; obtain ⟨⟨-, y0⟩, ⟨-, y1⟩, -⟩ := zF.out; have zL : wS.heap.size < _ := World.block_lt_of_cell? _ _ z0)); (try (have zC := kn_c (ps := [⟨wM.heap.size, 0, none⟩, ⟨wM.heap.size, 1, none⟩]) (vs := [.int .i64 0, .int .i64 0]) hb; have zF := kn_f (ps := [⟨wM.heap.size, 0, none⟩, ⟨wM.heap.size, 1, none⟩]) hb; obtain ⟨z0, z1, -⟩ := zC.out; obtain ⟨⟨-, y0⟩, ⟨-, y1⟩, -⟩ := zF.out; have zL : wM.heap.size < _ := World.block_lt_of_cell? _ _ z0)); (try (have zC := kn_c (ps := [⟨wF.heap.size, 0, none⟩, ⟨wF.heap.size, 1, none⟩]) (vs := [.int .i64 0, .int .i64 0]) hb; have zF := kn_f (ps := [⟨wF.heap.size, 0, none⟩, ⟨wF.heap.size, 1, none⟩]) hb; obtain ⟨z0, z1, -⟩ := zC.out; obtain ⟨⟨-, y0⟩, ⟨-, y1⟩, -⟩ := zF.out; have zL : wF.heap.size < _ := World.block_lt_of_cell? _ _ z0)); (try (have zC := kn_c (ps := [⟨wP.heap.size, 0, none⟩, ⟨wP.heap.size, 1, none⟩]) (vs := [.int .i64 0, .int .i64 0]) hb; have zF := kn_f (ps := [⟨wP.heap.size, 0, none⟩, ⟨wP.heap.size, 1, none⟩]) hb; obtain ⟨z0, z1, -⟩ := zC.out; obtain ⟨⟨-, y0⟩, ⟨-, y1⟩, -⟩ := zF.out; have zL : wP.heap.size < _ := World.block_lt_of_cell? _ _ z0)); clear hb) | (go_at_call 46; (with_reducible refine (ftoq_any isQ mk HI.out HK.out MB.out _ (fun _ => True) _ al (XA.out.below ?hb).bf).mono ?_); (case hb => exact Kn.out); rw [ER.out]; rintro e wQ ⟨rfl, hb⟩; have kB := kn_b (w0 := wc) hb; have hs := hb.size; (try simp at hs); (try (have zC := kn_c (ps := [⟨wc.heap.size, 0, none⟩, ⟨wc.heap.size, 1, none⟩]) (vs := [.int .i64 0, .int .i64 0]) hb; have zF := kn_f (ps := [⟨wc.heap.size, 0, none⟩, ⟨wc.heap.size, 1, none⟩]) hb; obtain ⟨z0, z1, -⟩ := zC.out; obtain ⟨⟨-, y0⟩, ⟨-, y1⟩, -⟩ := zF.out; have zL : wc.heap.size < _ := World.block_lt_of_cell? _ _ z0)); (try (have zC := kn_c (ps := [⟨wS.heap.size, 0, none⟩, ⟨wS.heap.size, 1, none⟩]) (vs := [.int .i64 0, .int .i64 0]) hb; have zF := kn_f (ps := [⟨wS.heap.size, 0, none⟩, ⟨wS.heap.size, 1, none⟩]) hb; obtain ⟨z0, z1, -⟩ := zC.out; obtain ⟨⟨-, y0⟩, ⟨-, y1⟩, -⟩ := zF.out; have zL : wS.heap.size < _ := World.block_lt_of_cell? _ _ z0)); (try (have zC := kn_c (ps := [⟨wM.heap.size, 0, none⟩, ⟨wM.heap.size, 1, none⟩]) (vs := [.int .i64 0, .int .i64 0]) hb; have zF := kn_f (ps := [⟨wM.heap.size, 0, none⟩, ⟨wM.heap.size, 1, none⟩]) hb; obtain ⟨z0, z1, -⟩ := zC.out; obtain ⟨⟨-, y0⟩, ⟨-, y1⟩, -⟩ := zF.out; have zL : wM.heap.size < _ := World.block_lt_of_cell? _ _ z0)); (try (have zC := kn_c (ps := [⟨wF.heap.size, 0, none⟩, ⟨wF.heap.size, 1, none⟩]) (vs := [.int .i64 0, .int .i64 0]) hb; have zF := kn_f (ps := [⟨wF.heap.size, 0, none⟩, ⟨wF.heap.size, 1, none⟩]) hb; obtain ⟨z0, z1, -⟩ := zC.out; obtain ⟨⟨-, y0⟩, ⟨-, y1⟩, -⟩ := zF.out; have zL : wF.heap.size < _ := World.block_lt_of_cell? _ _ z0)); (try (have zC := kn_c (ps := [⟨wP.heap.size, 0, none⟩, ⟨wP.heap.size, 1, none⟩]) (vs := [.int .i64 0, .int .i64 0]) hb; have zF := kn_f (ps := [⟨wP.heap.size, 0, none⟩, ⟨wP.heap.size, 1, none⟩]) hb; obtain ⟨z0, z1, -⟩ := zC.out; obtain ⟨⟨-, y0⟩, ⟨-, y1⟩, -⟩ := zF.out; have zL : wP.heap.size < _ := World.block_lt_of_cell? _ _ z0)); (try (have zC := kn_c (ps := [⟨wA.heap.size, 0, none⟩, ⟨wA.heap.size, 1, none⟩]) (vs := [.int .i64 0, .int .i64 0]) hb; have zF := kn_f (ps := [⟨wA.heap.size, 0, none⟩, ⟨wA.heap.size, 1, none⟩]) hb; obtain ⟨z0, z1, -⟩ := zC.out; obtain ⟨⟨-, y0⟩, ⟨-, y1⟩, -⟩ := zF.out; have zL : wA.heap.size < _ := World.block_lt_of_cell? _ _ z0)); clear hb))
          all_goals (go_wp2_with fail)
          all_goals go_meet
          all_goals (refine ⟨inferInstance, rfl, _, rfl, ?_⟩)
          all_goals first
            | (with_reducible exact two_cl _ _ _ _)
            | (with_reducible exact cl_set2 zC)
        case rest =>
          obtain ⟨k10, rfl, g10, rfl, hc10⟩ := hcut
          obtain ⟨x0_, x1_, -⟩ := hc10
          have q0 := kc k10.out s0
          have q1 := kc k10.out s1
          have y0 := kf k10.out s0 t0
          have y1 := kf k10.out s1 t1
          have hBf := below_step hBc.out k10.out
          clear k10 s0 s1 t0 t1 hBc
          cases rb with
          | false =>
            go_wp2
            exact bodyPost_ret (v := .tuple #[.agg #[.int .i64 0, .int .i64 0], .bool true]) (by simp [results, Try.results36, go_sem, q0, q1]) rfl ⟨rfl, below_set (below_set hBf (le_two _)) (le_two _)⟩
          | true =>
            go_wp2
            exact bodyPost_ret (v := .tuple #[.agg #[.int .i64 r1, .int .i64 r2], .bool true]) (by simp [results, Try.results36, go_sem, q0, q1]) rfl ⟨rfl, below_set (below_set hBf (le_two _)) (le_two _)⟩
end Go.Proofs.Ytlaidcoickeihaa.Nb
namespace Go.Proofs.Ytlaidcoickeihaa.Nb
open Go.RowKit Go.Proofs.Ytlaidcoickeihaa.Wd.PrintWords Go.Proofs.Ytlaidcoickeihaa.Wd.PrintLast Go.Proofs.Ytlaidcoickeihaa.Wd.PrintMore Go.Proofs.Ytlaidcoickeihaa.Big Go.Proofs.Ytlaidcoickeihaa.Plain
set_option synthInstance.maxSize 2000
set_option synthInstance.maxHeartbeats 400000
set_option maxHeartbeats 8000000 in
set_option maxRecDepth 100000 in
theorem value_key (hk : MakeCalls mk) (w : World) (k m3 x0 : ByteArray) (m1 m2 m4 m5 m6 m7 x1 x2 x3 : Int) (m8 : Bool) (h2 : In64 x2) (hkey : (k.toList == ([107, 101, 121] : List UInt8)) = true) :
    Calls Try.prog 36 #[.agg #[.string k, .int .i64 m1, .int .i64 m2, .string m3, .int .i64 m4, .int .i64 m5, .int .i64 m6, .int .i64 m7, .bool m8], .agg #[.string x0, .int .i64 x1, .int .i64 x2, .int .i64 x3]] w fun e w' => e = .returned (.tuple #[.agg #[.int .i64 (mk x2 1).1, .int .i64 (mk x2 1).2], .bool true]) ∧ Below w.heap.size w w' := by
  have hu48 := Try.underlying48
  have hu37 := Try.underlying37
  obtain ⟨⟨g1, g2⟩, hm⟩ : ∃ r, mk x2 1 = r := ⟨_, rfl⟩
  rw [hm]
  have HK := Aside0.mk hk
  have H2 : Aside0 (-9223372036854775808 ≤ x2 ∧ x2 ≤ 9223372036854775807) := ⟨h2⟩
  have H1 : Aside0 (-9223372036854775808 ≤ (1 : Int) ∧ (1 : Int) ≤ 9223372036854775807) := ⟨by omega⟩
  have HM := Aside0.mk hm
  clear hk h2 hm
  go_enter Try.func36, Try.ntmps36
  go_wp2_with (go_at_call 41; (with_reducible refine (make_by HK.out _ x2 1 H2.out H1.out (g1, g2) HM.out).mono ?_); rintro e w1 ⟨rfl, hb⟩; have qB0 := kn_b (w0 := w) hb; have qC0 : Kn (CL _ [⟨w.heap.size, 0, none⟩, ⟨w.heap.size, 1, none⟩, ⟨w.heap.size, 2, none⟩, ⟨w.heap.size, 3, none⟩, ⟨w.heap.size, 4, none⟩, ⟨w.heap.size, 5, none⟩, ⟨w.heap.size, 6, none⟩, ⟨w.heap.size, 7, none⟩, ⟨w.heap.size, 8, none⟩, ⟨w.heap.size + 1, 0, none⟩, ⟨w.heap.size + 1, 1, none⟩, ⟨w.heap.size + 1, 2, none⟩, ⟨w.heap.size + 1, 3, none⟩, ⟨w.heap.size + 1 + 1, 0, none⟩, ⟨w.heap.size + 1 + 1, 1, none⟩] [.string k, .int .i64 m1, .int .i64 m2, .string m3, .int .i64 m4, .int .i64 m5, .int .i64 m6, .int .i64 m7, .bool m8, .string x0, .int .i64 x1, .int .i64 x2, .int .i64 x3, .int .i64 0, .int .i64 0]) := kn_c hb; obtain ⟨q0_0, q0_1, q0_2, q0_3, q0_4, q0_5, q0_6, q0_7, q0_8, q0_9, q0_10, q0_11, q0_12, q0_13, q0_14, -⟩ := qC0.out; have qF0 : Kn (FZ _ [⟨w.heap.size + 1 + 1, 0, none⟩, ⟨w.heap.size + 1 + 1, 1, none⟩]) := kn_f hb; obtain ⟨⟨-, f0_0⟩, ⟨-, f0_1⟩, -⟩ := qF0.out; clear hb)
  exact bodyPost_ret (v := .tuple #[.agg #[.int .i64 g1, .int .i64 g2], .bool true]) (by simp [results, Try.results36, go_sem, q0_13, q0_14]) rfl ⟨rfl, below_set (below_set qB0.out (le_two _)) (le_two _)⟩
set_option maxHeartbeats 8000000 in
set_option maxRecDepth 100000 in
theorem value_off (w : World) (k m3 x0 : ByteArray) (m1 m2 m4 m5 m6 m7 x1 x2 x3 : Int) (m8 : Bool) (hkey : (k.toList == ([107, 101, 121] : List UInt8)) = false) (hoff : (x0.toList == ([111, 102, 102] : List UInt8)) = true) (hg : m8 = false) :
    Calls Try.prog 36 #[.agg #[.string k, .int .i64 m1, .int .i64 m2, .string m3, .int .i64 m4, .int .i64 m5, .int .i64 m6, .int .i64 m7, .bool m8], .agg #[.string x0, .int .i64 x1, .int .i64 x2, .int .i64 x3]] w fun e w' => e = .returned (.tuple #[.agg #[.int .i64 0, .int .i64 0], .bool false]) ∧ Below w.heap.size w w' := by
  have hu48 := Try.underlying48
  have hu37 := Try.underlying37
  subst hg
  cases hb1 : (k.toList == ([98, 101, 110, 100] : List UInt8)) <;> cases hb2 : (k.toList == ([119, 105, 100, 101] : List UInt8)) <;>
    (go_enter Try.func36, Try.ntmps36
     go_wp2
     exact bodyPost_ret (v := .tuple #[.agg #[.int .i64 0, .int .i64 0], .bool false]) (by simp [results, Try.results36, go_sem]) rfl ⟨rfl, Kn.out⟩)
theorem beq_l {a b : List UInt8} : (a == b) = true ↔ a = b := by simp
theorem value_any (hi : IsCalls isQ) (hk : MakeCalls mk) (w : World) (k m3 x0 : ByteArray) (m1 m2 m4 m5 m6 m7 x1 x2 x3 : Int) (m8 : Bool) (h4 : In64 m4) (h5 : In64 m5) (h6 : In64 m6) (h7 : In64 m7) (h2 : In64 x2) (h3 : In64 x3) :
    Calls Try.prog 36 #[.agg #[.string k, .int .i64 m1, .int .i64 m2, .string m3, .int .i64 m4, .int .i64 m5, .int .i64 m6, .int .i64 m7, .bool m8], .agg #[.string x0, .int .i64 x1, .int .i64 x2, .int .i64 x3]] w fun e w' => e = .returned (.tuple #[.agg #[.int .i64 (mapOf0 k m4 m5 m6 m7 m8 x0 x2 x3).1.1, .int .i64 (mapOf0 k m4 m5 m6 m7 m8 x0 x2 x3).1.2], .bool (mapOf0 k m4 m5 m6 m7 m8 x0 x2 x3).2]) ∧ Below w.heap.size w w' := by
  unfold mapOf0
  by_cases hkey : k.toList = [107, 101, 121]
  · rw [if_pos hkey]
    exact value_key hk w k m3 x0 m1 m2 m4 m5 m6 m7 x1 x2 x3 m8 h2 (beq_l.2 hkey)
  rw [if_neg hkey]
  have hkb : (k.toList == ([107, 101, 121] : List UInt8)) = false := beq_false_of_ne hkey
  obtain ⟨top, htop⟩ : ∃ t : Int, (if k.toList = [98, 101, 110, 100] ∨ k.toList = [119, 105, 100, 101] then (16383 : Int) else 127) = t := ⟨_, rfl⟩
  rw [htop]
  have ht : top = if ((k.toList == ([98, 101, 110, 100] : List UInt8)) || (k.toList == ([119, 105, 100, 101] : List UInt8))) = true then 16383 else 127 := by
    rw [← htop]
    simp only [Bool.or_eq_true, beq_l]
  have htt : In64 top := by rw [ht]; unfold In64; split <;> omega
  clear htop
  have hsh : ∀ n, In64 n → (n = if (m8 && (x0.toList == ([111, 102, 102] : List UInt8))) = true then 0 else if (m8 && (x0.toList == ([111, 110] : List UInt8))) = true then top else x3) → (!m8 && (x0.toList == ([111, 102, 102] : List UInt8))) = false → _ := fun n hn hnn hno => value_share hi hk w k m3 x0 m1 m2 m4 m5 m6 m7 x1 x2 x3 m8 n top h4 h5 h6 h7 hn _ ht rfl hkb _ _ rfl rfl hnn hno
  by_cases h1 : m8 = true ∧ x0.toList = [111, 102, 102]
  · rw [if_pos h1]
    exact hsh 0 (by unfold In64; omega) (by rw [h1.1, h1.2]; rfl) (by rw [h1.1]; rfl)
  rw [if_neg h1]
  by_cases h2' : m8 = true ∧ x0.toList = [111, 110]
  · rw [if_pos h2']
    exact hsh top htt (by rw [h2'.1, h2'.2]; rfl) (by rw [h2'.1]; rfl)
  rw [if_neg h2']
  by_cases h3' : x0.toList = [111, 102, 102]
  · rw [if_pos h3']
    have hg : m8 = false := by
      cases m8 with
      | false => rfl
      | true => exact absurd ⟨rfl, h3'⟩ h1
    exact value_off w k m3 x0 m1 m2 m4 m5 m6 m7 x1 x2 x3 m8 hkb (beq_l.2 h3') hg
  · rw [if_neg h3']
    have ho : (x0.toList == ([111, 102, 102] : List UInt8)) = false := beq_false_of_ne h3'
    refine hsh x3 h3 ?_ (by rw [ho, Bool.and_false])
    rw [ho, Bool.and_false, if_neg (by decide)]
    cases m8 with
    | false => rfl
    | true =>
      have hn : (x0.toList == ([111, 110] : List UInt8)) = false := beq_false_of_ne fun h => h2' ⟨rfl, h⟩
      rw [hn]
      rfl
end Go.Proofs.Ytlaidcoickeihaa.Nb
namespace Go.Proofs.Ytlaidcoickeihaa.Nb
open Go.RowKit Go.Proofs.Ytlaidcoickeihaa.Wd.PrintWords Go.Proofs.Ytlaidcoickeihaa.Wd.PrintLast Go.Proofs.Ytlaidcoickeihaa.Wd.PrintMore Go.Proofs.Ytlaidcoickeihaa.Big Go.Proofs.Ytlaidcoickeihaa.Plain
set_option synthInstance.maxSize 2000
set_option synthInstance.maxHeartbeats 400000
theorem rmade_by (hi : RIsCalls isQ) (w : World) (k m3 : ByteArray) (m1 m2 m4 m5 m6 m7 n top : Int) (m8 : Bool) (h4 : In64 m4) (h5 : In64 m5) (h6 : In64 m6) (h7 : In64 m7) (hn : In64 n) (ht : In64 top) (h0 : top ≠ 0) (r1 r2 : Int) (hr : (rtoQ (part m4 m5 m6 m7 (Rat.divInt n top))).1 = (r1, r2)) :
    Calls Try.prog 49 #[.agg #[.string k, .int .i64 m1, .int .i64 m2, .string m3, .int .i64 m4, .int .i64 m5, .int .i64 m6, .int .i64 m7, .bool m8], .int .i64 n, .int .i64 top] w fun e w' => e = .returned (.agg #[.int .i64 r1, .int .i64 r2]) ∧ Below w.heap.size w w' := by
  have h := rmade_any hi w k m3 m1 m2 m4 m5 m6 m7 n top m8 h4 h5 h6 h7 hn ht h0
  rw [hr] at h
  exact h
def WholeCalls : Prop := ∀ (w : World) (n : Int), (-9223372036854775808 ≤ n ∧ n ≤ 9223372036854775807) →
  Calls Try.prog 48 #[.int .i64 n] w fun e w' => e = .returned (.agg #[.int .i64 (mk n 1).1, .int .i64 (mk n 1).2]) ∧ Below w.heap.size w w'
theorem whole_by (h : WholeCalls) (w : World) (n : Int) (hn : (-9223372036854775808 ≤ n ∧ n ≤ 9223372036854775807)) (g1 g2 : Int) (hm : mk n 1 = (g1, g2)) :
    Calls Try.prog 48 #[.int .i64 n] w fun e w' => e = .returned (.agg #[.int .i64 g1, .int .i64 g2]) ∧ Below w.heap.size w w' := by
  have h := h w n hn
  rw [hm] at h
  exact h
set_option maxHeartbeats 8000000 in
set_option maxRecDepth 100000 in
theorem rvalue_key (hk : WholeCalls) (w : World) (k m3 x0 : ByteArray) (m1 m2 m4 m5 m6 m7 x1 x2 x3 : Int) (m8 : Bool) (h2 : In64 x2) (hkey : (k.toList == ([107, 101, 121] : List UInt8)) = true) :
    Calls Try.prog 39 #[.agg #[.string k, .int .i64 m1, .int .i64 m2, .string m3, .int .i64 m4, .int .i64 m5, .int .i64 m6, .int .i64 m7, .bool m8], .agg #[.string x0, .int .i64 x1, .int .i64 x2, .int .i64 x3]] w fun e w' => e = .returned (.tuple #[.agg #[.int .i64 (mk x2 1).1, .int .i64 (mk x2 1).2], .bool true]) ∧ Below w.heap.size w w' := by
  have hu49 := Try.underlying49
  have hu37 := Try.underlying37
  obtain ⟨⟨g1, g2⟩, hm⟩ : ∃ r, mk x2 1 = r := ⟨_, rfl⟩
  rw [hm]
  have HK := Aside0.mk hk
  have H2 : Aside0 (-9223372036854775808 ≤ x2 ∧ x2 ≤ 9223372036854775807) := ⟨h2⟩
  have HM := Aside0.mk hm
  clear hk h2 hm
  go_enter Try.func39, Try.ntmps39
  go_wp2_with (go_at_call 48; (with_reducible refine (whole_by HK.out _ x2 H2.out g1 g2 HM.out).mono ?_); rintro e w1 ⟨rfl, hb⟩; have qB0 := kn_b (w0 := w) hb; have qC0 : Kn (CL _ [⟨w.heap.size + 1 + 1, 0, none⟩, ⟨w.heap.size + 1 + 1, 1, none⟩] [.int .i64 0, .int .i64 0]) := kn_c hb; obtain ⟨q0_0, q0_1, -⟩ := qC0.out; have qF0 : Kn (FZ _ [⟨w.heap.size + 1 + 1, 0, none⟩, ⟨w.heap.size + 1 + 1, 1, none⟩]) := kn_f hb; obtain ⟨⟨-, f0_0⟩, ⟨-, f0_1⟩, -⟩ := qF0.out; clear hb)
  exact bodyPost_ret (v := .tuple #[.agg #[.int .i64 g1, .int .i64 g2], .bool true]) (by simp [results, Try.results39, go_sem, q0_0, q0_1]) rfl ⟨rfl, below_set (below_set qB0.out (le_two _)) (le_two _)⟩
set_option maxHeartbeats 8000000 in
set_option maxRecDepth 100000 in
theorem rvalue_off (w : World) (k m3 x0 : ByteArray) (m1 m2 m4 m5 m6 m7 x1 x2 x3 : Int) (m8 : Bool) (hkey : (k.toList == ([107, 101, 121] : List UInt8)) = false) (hoff : (x0.toList == ([111, 102, 102] : List UInt8)) = true) (hg : m8 = false) :
    Calls Try.prog 39 #[.agg #[.string k, .int .i64 m1, .int .i64 m2, .string m3, .int .i64 m4, .int .i64 m5, .int .i64 m6, .int .i64 m7, .bool m8], .agg #[.string x0, .int .i64 x1, .int .i64 x2, .int .i64 x3]] w fun e w' => e = .returned (.tuple #[.agg #[.int .i64 0, .int .i64 0], .bool false]) ∧ Below w.heap.size w w' := by
  have hu49 := Try.underlying49
  have hu37 := Try.underlying37
  subst hg
  go_enter Try.func39, Try.ntmps39
  go_wp2_with (go_at_call 50; (with_reducible refine (rnone_any _).mono ?_); rintro e w1 ⟨rfl, hb⟩; have qB0 := kn_b (w0 := w) hb; have qC0 : Kn (CL _ [⟨w.heap.size + 1 + 1, 0, none⟩, ⟨w.heap.size + 1 + 1, 1, none⟩] [.int .i64 0, .int .i64 0]) := kn_c hb; obtain ⟨q0_0, q0_1, -⟩ := qC0.out; have qF0 : Kn (FZ _ [⟨w.heap.size + 1 + 1, 0, none⟩, ⟨w.heap.size + 1 + 1, 1, none⟩]) := kn_f hb; obtain ⟨⟨-, f0_0⟩, ⟨-, f0_1⟩, -⟩ := qF0.out; clear hb)
  exact bodyPost_ret (v := .tuple #[.agg #[.int .i64 0, .int .i64 0], .bool false]) (by simp [results, Try.results39, go_sem, q0_0, q0_1]) rfl ⟨rfl, below_set (below_set qB0.out (le_two _)) (le_two _)⟩
set_option maxHeartbeats 8000000 in
set_option maxRecDepth 100000 in
theorem rvalue_on (hi : RIsCalls isQ) (w : World) (k m3 x0 : ByteArray) (m1 m2 m4 m5 m6 m7 x1 x2 x3 : Int) (m8 : Bool) (h4 : In64 m4) (h5 : In64 m5) (h6 : In64 m6) (h7 : In64 m7) (h3 : In64 x3) (hkey : (k.toList == ([107, 101, 121] : List UInt8)) = false) (hm8 : m8 = true) (hon : (x0.toList == ([111, 110] : List UInt8)) = true) (r1 r2 : Int) (hr : (rtoQ (part m4 m5 m6 m7 (Rat.divInt 1 1))).1 = (r1, r2)) :
    Calls Try.prog 39 #[.agg #[.string k, .int .i64 m1, .int .i64 m2, .string m3, .int .i64 m4, .int .i64 m5, .int .i64 m6, .int .i64 m7, .bool m8], .agg #[.string x0, .int .i64 x1, .int .i64 x2, .int .i64 x3]] w fun e w' => e = .returned (.tuple #[.agg #[.int .i64 r1, .int .i64 r2], .bool true]) ∧ Below w.heap.size w w' := by
  have hu49 := Try.underlying49
  have hu37 := Try.underlying37
  have HC := Aside0.mk (fun w => rmade_by hi w k m3 m1 m2 m4 m5 m6 m7 1 1 m8 h4 h5 h6 h7 (by first | exact h3 | (unfold In64; omega)) (by unfold In64; omega) (by decide) r1 r2 hr)
  clear hi h4 h5 h6 h7 h3 hr
  subst hm8 <;>
  (go_enter Try.func39, Try.ntmps39
   go_wp2_with (go_at_call 49; (with_reducible refine (HC.out _).mono ?_); rintro e w1 ⟨rfl, hb⟩; have qB0 := kn_b (w0 := w) hb; have qC0 : Kn (CL _ [⟨w.heap.size + 1 + 1, 0, none⟩, ⟨w.heap.size + 1 + 1, 1, none⟩] [.int .i64 0, .int .i64 0]) := kn_c hb; obtain ⟨q0_0, q0_1, -⟩ := qC0.out; have qF0 : Kn (FZ _ [⟨w.heap.size + 1 + 1, 0, none⟩, ⟨w.heap.size + 1 + 1, 1, none⟩]) := kn_f hb; obtain ⟨⟨-, f0_0⟩, ⟨-, f0_1⟩, -⟩ := qF0.out; clear hb)
   exact bodyPost_ret (v := .tuple #[.agg #[.int .i64 r1, .int .i64 r2], .bool true]) (by simp [results, Try.results39, go_sem, q0_0, q0_1]) rfl ⟨rfl, below_set (below_set qB0.out (le_two _)) (le_two _)⟩)
set_option maxHeartbeats 8000000 in
set_option maxRecDepth 100000 in
theorem rvalue_goff (hi : RIsCalls isQ) (w : World) (k m3 x0 : ByteArray) (m1 m2 m4 m5 m6 m7 x1 x2 x3 : Int) (m8 : Bool) (h4 : In64 m4) (h5 : In64 m5) (h6 : In64 m6) (h7 : In64 m7) (h3 : In64 x3) (hkey : (k.toList == ([107, 101, 121] : List UInt8)) = false) (hm8 : m8 = true) (hon : (x0.toList == ([111, 110] : List UInt8)) = false) (hoff : (x0.toList == ([111, 102, 102] : List UInt8)) = true) (r1 r2 : Int) (hr : (rtoQ (part m4 m5 m6 m7 (Rat.divInt 0 1))).1 = (r1, r2)) :
    Calls Try.prog 39 #[.agg #[.string k, .int .i64 m1, .int .i64 m2, .string m3, .int .i64 m4, .int .i64 m5, .int .i64 m6, .int .i64 m7, .bool m8], .agg #[.string x0, .int .i64 x1, .int .i64 x2, .int .i64 x3]] w fun e w' => e = .returned (.tuple #[.agg #[.int .i64 r1, .int .i64 r2], .bool true]) ∧ Below w.heap.size w w' := by
  have hu49 := Try.underlying49
  have hu37 := Try.underlying37
  have HC := Aside0.mk (fun w => rmade_by hi w k m3 m1 m2 m4 m5 m6 m7 0 1 m8 h4 h5 h6 h7 (by first | exact h3 | (unfold In64; omega)) (by unfold In64; omega) (by decide) r1 r2 hr)
  clear hi h4 h5 h6 h7 h3 hr
  subst hm8 <;>
  (go_enter Try.func39, Try.ntmps39
   go_wp2_with (go_at_call 49; (with_reducible refine (HC.out _).mono ?_); rintro e w1 ⟨rfl, hb⟩; have qB0 := kn_b (w0 := w) hb; have qC0 : Kn (CL _ [⟨w.heap.size + 1 + 1, 0, none⟩, ⟨w.heap.size + 1 + 1, 1, none⟩] [.int .i64 0, .int .i64 0]) := kn_c hb; obtain ⟨q0_0, q0_1, -⟩ := qC0.out; have qF0 : Kn (FZ _ [⟨w.heap.size + 1 + 1, 0, none⟩, ⟨w.heap.size + 1 + 1, 1, none⟩]) := kn_f hb; obtain ⟨⟨-, f0_0⟩, ⟨-, f0_1⟩, -⟩ := qF0.out; clear hb)
   exact bodyPost_ret (v := .tuple #[.agg #[.int .i64 r1, .int .i64 r2], .bool true]) (by simp [results, Try.results39, go_sem, q0_0, q0_1]) rfl ⟨rfl, below_set (below_set qB0.out (le_two _)) (le_two _)⟩)
set_option maxHeartbeats 8000000 in
set_option maxRecDepth 100000 in
theorem rvalue_great (hi : RIsCalls isQ) (w : World) (k m3 x0 : ByteArray) (m1 m2 m4 m5 m6 m7 x1 x2 x3 : Int) (m8 : Bool) (h4 : In64 m4) (h5 : In64 m5) (h6 : In64 m6) (h7 : In64 m7) (h3 : In64 x3) (hkey : (k.toList == ([107, 101, 121] : List UInt8)) = false) (hoff : (x0.toList == ([111, 102, 102] : List UInt8)) = false) (hon : (x0.toList == ([111, 110] : List UInt8)) = false) (b : Bool) (hbend : (x0.toList == ([98, 101, 110, 100] : List UInt8)) = b) (hwide : b = false → (x0.toList == ([119, 105, 100, 101] : List UInt8)) = true) (r1 r2 : Int) (hr : (rtoQ (part m4 m5 m6 m7 (Rat.divInt x3 16383))).1 = (r1, r2)) :
    Calls Try.prog 39 #[.agg #[.string k, .int .i64 m1, .int .i64 m2, .string m3, .int .i64 m4, .int .i64 m5, .int .i64 m6, .int .i64 m7, .bool m8], .agg #[.string x0, .int .i64 x1, .int .i64 x2, .int .i64 x3]] w fun e w' => e = .returned (.tuple #[.agg #[.int .i64 r1, .int .i64 r2], .bool true]) ∧ Below w.heap.size w w' := by
  have hu49 := Try.underlying49
  have hu37 := Try.underlying37
  have HC := Aside0.mk (fun w => rmade_by hi w k m3 m1 m2 m4 m5 m6 m7 x3 16383 m8 h4 h5 h6 h7 (by first | exact h3 | (unfold In64; omega)) (by unfold In64; omega) (by decide) r1 r2 hr)
  clear hi h4 h5 h6 h7 h3 hr
  cases m8 <;> cases b <;> simp only [forall_const, reduceCtorEq, false_implies] at hwide <;>
  (go_enter Try.func39, Try.ntmps39
   go_wp2_with (go_at_call 49; (with_reducible refine (HC.out _).mono ?_); rintro e w1 ⟨rfl, hb⟩; have qB0 := kn_b (w0 := w) hb; have qC0 : Kn (CL _ [⟨w.heap.size + 1 + 1, 0, none⟩, ⟨w.heap.size + 1 + 1, 1, none⟩] [.int .i64 0, .int .i64 0]) := kn_c hb; obtain ⟨q0_0, q0_1, -⟩ := qC0.out; have qF0 : Kn (FZ _ [⟨w.heap.size + 1 + 1, 0, none⟩, ⟨w.heap.size + 1 + 1, 1, none⟩]) := kn_f hb; obtain ⟨⟨-, f0_0⟩, ⟨-, f0_1⟩, -⟩ := qF0.out; clear hb)
   exact bodyPost_ret (v := .tuple #[.agg #[.int .i64 r1, .int .i64 r2], .bool true]) (by simp [results, Try.results39, go_sem, q0_0, q0_1]) rfl ⟨rfl, below_set (below_set qB0.out (le_two _)) (le_two _)⟩)
set_option maxHeartbeats 8000000 in
set_option maxRecDepth 100000 in
theorem rvalue_small (hi : RIsCalls isQ) (w : World) (k m3 x0 : ByteArray) (m1 m2 m4 m5 m6 m7 x1 x2 x3 : Int) (m8 : Bool) (h4 : In64 m4) (h5 : In64 m5) (h6 : In64 m6) (h7 : In64 m7) (h3 : In64 x3) (hkey : (k.toList == ([107, 101, 121] : List UInt8)) = false) (hoff : (x0.toList == ([111, 102, 102] : List UInt8)) = false) (hon : (m8 && (x0.toList == ([111, 110] : List UInt8))) = false) (hbend : (x0.toList == ([98, 101, 110, 100] : List UInt8)) = false) (hwide : (x0.toList == ([119, 105, 100, 101] : List UInt8)) = false) (r1 r2 : Int) (hr : (rtoQ (part m4 m5 m6 m7 (Rat.divInt x3 127))).1 = (r1, r2)) :
    Calls Try.prog 39 #[.agg #[.string k, .int .i64 m1, .int .i64 m2, .string m3, .int .i64 m4, .int .i64 m5, .int .i64 m6, .int .i64 m7, .bool m8], .agg #[.string x0, .int .i64 x1, .int .i64 x2, .int .i64 x3]] w fun e w' => e = .returned (.tuple #[.agg #[.int .i64 r1, .int .i64 r2], .bool true]) ∧ Below w.heap.size w w' := by
  have hu49 := Try.underlying49
  have hu37 := Try.underlying37
  have HC := Aside0.mk (fun w => rmade_by hi w k m3 m1 m2 m4 m5 m6 m7 x3 127 m8 h4 h5 h6 h7 (by first | exact h3 | (unfold In64; omega)) (by unfold In64; omega) (by decide) r1 r2 hr)
  clear hi h4 h5 h6 h7 h3 hr
  cases m8 <;> simp only [Bool.false_and, Bool.true_and] at hon <;>
  (go_enter Try.func39, Try.ntmps39
   go_wp2_with (go_at_call 49; (with_reducible refine (HC.out _).mono ?_); rintro e w1 ⟨rfl, hb⟩; have qB0 := kn_b (w0 := w) hb; have qC0 : Kn (CL _ [⟨w.heap.size + 1 + 1, 0, none⟩, ⟨w.heap.size + 1 + 1, 1, none⟩] [.int .i64 0, .int .i64 0]) := kn_c hb; obtain ⟨q0_0, q0_1, -⟩ := qC0.out; have qF0 : Kn (FZ _ [⟨w.heap.size + 1 + 1, 0, none⟩, ⟨w.heap.size + 1 + 1, 1, none⟩]) := kn_f hb; obtain ⟨⟨-, f0_0⟩, ⟨-, f0_1⟩, -⟩ := qF0.out; clear hb)
   exact bodyPost_ret (v := .tuple #[.agg #[.int .i64 r1, .int .i64 r2], .bool true]) (by simp [results, Try.results39, go_sem, q0_0, q0_1]) rfl ⟨rfl, below_set (below_set qB0.out (le_two _)) (le_two _)⟩)
def rmapOf0 (kind : ByteArray) (ln ld hn hd : Int) (gate : Bool) (xkind : ByteArray) (xkey xval : Int) : (Int × Int) × Bool :=
  if kind.toList = [107, 101, 121] then (mk xkey 1, true) else
  if gate = true ∧ xkind.toList = [111, 110] then ((rtoQ (part ln ld hn hd (Rat.divInt 1 1))).1, true) else
  if gate = true ∧ xkind.toList = [111, 102, 102] then ((rtoQ (part ln ld hn hd (Rat.divInt 0 1))).1, true) else
  if xkind.toList = [111, 102, 102] then ((0, 0), false) else
  if xkind.toList = [98, 101, 110, 100] ∨ xkind.toList = [119, 105, 100, 101] then ((rtoQ (part ln ld hn hd (Rat.divInt xval 16383))).1, true) else ((rtoQ (part ln ld hn hd (Rat.divInt xval 127))).1, true)
def rmapOf (kind : ByteArray) (ln ld hn hd : Int) (gate : Bool) (xkind : ByteArray) (xkey xval : Int) : Option (Int × Int × Bool) :=
  if In64 ln ∧ In64 ld ∧ In64 hn ∧ In64 hd ∧ In64 xkey ∧ In64 xval then some ((rmapOf0 kind ln ld hn hd gate xkind xkey xval).1.1, (rmapOf0 kind ln ld hn hd gate xkind xkey xval).1.2, (rmapOf0 kind ln ld hn hd gate xkind xkey xval).2) else none
theorem rbeq_l {a b : List UInt8} : (a == b) = true ↔ a = b := by simp
theorem rvalue_any (hi : RIsCalls isQ) (hk : WholeCalls) (w : World) (k m3 x0 : ByteArray) (m1 m2 m4 m5 m6 m7 x1 x2 x3 : Int) (m8 : Bool) (h4 : In64 m4) (h5 : In64 m5) (h6 : In64 m6) (h7 : In64 m7) (h2 : In64 x2) (h3 : In64 x3) :
    Calls Try.prog 39 #[.agg #[.string k, .int .i64 m1, .int .i64 m2, .string m3, .int .i64 m4, .int .i64 m5, .int .i64 m6, .int .i64 m7, .bool m8], .agg #[.string x0, .int .i64 x1, .int .i64 x2, .int .i64 x3]] w fun e w' => e = .returned (.tuple #[.agg #[.int .i64 (rmapOf0 k m4 m5 m6 m7 m8 x0 x2 x3).1.1, .int .i64 (rmapOf0 k m4 m5 m6 m7 m8 x0 x2 x3).1.2], .bool (rmapOf0 k m4 m5 m6 m7 m8 x0 x2 x3).2]) ∧ Below w.heap.size w w' := by
  unfold rmapOf0
  by_cases hkey : k.toList = [107, 101, 121]
  · rw [if_pos hkey]
    exact rvalue_key hk w k m3 x0 m1 m2 m4 m5 m6 m7 x1 x2 x3 m8 h2 (rbeq_l.2 hkey)
  rw [if_neg hkey]
  have hkb : (k.toList == ([107, 101, 121] : List UInt8)) = false := beq_false_of_ne hkey
  by_cases h1 : m8 = true ∧ x0.toList = [111, 110]
  · rw [if_pos h1]
    exact rvalue_on hi w k m3 x0 m1 m2 m4 m5 m6 m7 x1 x2 x3 m8 h4 h5 h6 h7 h3 hkb h1.1 (rbeq_l.2 h1.2) _ _ rfl
  rw [if_neg h1]
  by_cases h2' : m8 = true ∧ x0.toList = [111, 102, 102]
  · rw [if_pos h2']
    exact rvalue_goff hi w k m3 x0 m1 m2 m4 m5 m6 m7 x1 x2 x3 m8 h4 h5 h6 h7 h3 hkb h2'.1 (by rw [h2'.2]; decide) (rbeq_l.2 h2'.2) _ _ rfl
  rw [if_neg h2']
  by_cases h3' : x0.toList = [111, 102, 102]
  · rw [if_pos h3']
    have hg : m8 = false := by
      cases m8 with
      | false => rfl
      | true => exact absurd ⟨rfl, h3'⟩ h2'
    exact rvalue_off w k m3 x0 m1 m2 m4 m5 m6 m7 x1 x2 x3 m8 hkb (rbeq_l.2 h3') hg
  rw [if_neg h3']
  have ho : (x0.toList == ([111, 102, 102] : List UInt8)) = false := beq_false_of_ne h3'
  by_cases h4' : x0.toList = [98, 101, 110, 100] ∨ x0.toList = [119, 105, 100, 101]
  · rw [if_pos h4']
    refine rvalue_great hi w k m3 x0 m1 m2 m4 m5 m6 m7 x1 x2 x3 m8 h4 h5 h6 h7 h3 hkb ho ?_ _ rfl (fun hb => ?_) _ _ rfl
    · rcases h4' with h | h <;> rw [h] <;> decide
    · rcases h4' with h | h
      · rw [h] at hb; cases hb
      · rw [h]; decide
  · rw [if_neg h4']
    refine rvalue_small hi w k m3 x0 m1 m2 m4 m5 m6 m7 x1 x2 x3 m8 h4 h5 h6 h7 h3 hkb ho ?_ (beq_false_of_ne fun h => h4' (.inl h)) (beq_false_of_ne fun h => h4' (.inr h)) _ _ rfl
    cases m8 with
    | false => rfl
    | true =>
      have hn : (x0.toList == ([111, 110] : List UInt8)) = false := beq_false_of_ne fun h => h1 ⟨rfl, h⟩
      rw [hn]
      rfl
end Go.Proofs.Ytlaidcoickeihaa.Nb
