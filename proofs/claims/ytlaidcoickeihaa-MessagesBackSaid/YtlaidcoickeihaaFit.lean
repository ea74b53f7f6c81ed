/- What the reader takes as a datum of a type lies in memory as the printed kind says: one lemma for each way to form a type. -/
import Derived.Test.YtlaidcoickeihaaWWords
import Derived.Deep.Slices
import Derived.ChangeArms
import Derived.ChangeSame
import Derived.SizedLaws
import Derived.OpenShut
import Derived.WideShapes
namespace Go.Proofs.Ytlaidcoickeihaa.Fit
open Go.ChangeShapes Go.WideShapes Go.Deep Go.Proofs.YtlaidcoickeihaaW.PrintWords

/-- What a type's datum is, as a kind. -/
structure Fit (P : Program) (t : TypeId) {α : Type} (k : Kd α) (good : α → Prop) : Prop where
  sz : P.cellsOf t = k.sz
  take : ∀ {H : Type} {enc : TypeId × Value → H} {w : World} {base : Nat} {spare : Nat → Bool} {held : Bool} {fuel : Nat} {cs : List Value} {x : DataW H × List MemPlace},
    DataW.trod enc P w base spare held fuel t cs = some x → (∀ n ∈ x.1.weights P t, n ≤ 140737488351232) → ∃ a, k.K w a cs ∧ good a

theorem Fit.int {P : Program} {t : TypeId} {k : IntKind} (ht : P.underlying t = some (.int k)) (hs : P.cellsOf t = 1) : Fit P t (Kd.int k) (fun n => (Lit.int k n).wf = true) :=
  ⟨hs, fun h _ => by
    obtain ⟨n, rfl, _, hw⟩ := DataW.trod_int ht h
    exact ⟨n, rfl, hw⟩⟩

theorem Fit.bool {P : Program} {t : TypeId} (ht : P.underlying t = some .bool) (hs : P.cellsOf t = 1) : Fit P t Kd.bool (fun _ => True) :=
  ⟨hs, fun h _ => by
    obtain ⟨n, rfl, _⟩ := DataW.trod_bool ht h
    exact ⟨n, rfl, trivial⟩⟩

theorem Fit.string {P : Program} {t : TypeId} (ht : P.underlying t = some .string) (hs : P.cellsOf t = 1) : Fit P t Kd.string (fun s => s.size ≤ 140737488351232) :=
  ⟨hs, fun h hw => by
    obtain ⟨s, rfl, rfl, _⟩ := DataW.trod_string ht h
    refine ⟨s, rfl, ?_⟩
    have := hw s.data.toList.length (by simp [DataW.weights])
    rw [Array.length_toList] at this
    exact this⟩

theorem Fit.iso {P : Program} {t : TypeId} {α β : Type} {k : Kd α} {good : α → Prop} (h : Fit P t k good) (f : β → α) (g : α → β) (hfg : ∀ a, f (g a) = a) : Fit P t (Kd.iso k f) (fun b => good (f b)) :=
  ⟨h.sz, fun ht hw => by
    obtain ⟨a, hk, hg⟩ := h.take ht hw
    refine ⟨g a, ?_, ?_⟩
    · show k.K _ (f (g a)) _
      rw [hfg]; exact hk
    · show good (f (g a))
      rw [hfg]; exact hg⟩

theorem weightsAll_mem {H : Type} {P : Program} {e : TypeId} : ∀ {ds : List (DataW H)} {d : DataW H}, d ∈ ds → ∀ n ∈ d.weights P e, n ∈ DataW.weightsAll P e ds
  | [], _, h, _, _ => by cases h
  | d0 :: ds, d, h, n, hn => by
    simp only [DataW.weightsAll, List.mem_append]
    rcases List.mem_cons.1 h with rfl | h
    · exact .inl hn
    · exact .inr (weightsAll_mem h n hn)

theorem Fit.slice {P : Program} {t e : TypeId} {α : Type} {k : Kd α} {good : α → Prop} {B : Nat} (ht : P.underlying t = some (.slice e)) (hs : P.cellsOf t = 1) (he : Fit P e k good) (hB : P.bytesOf e = B) :
    Fit P t (Kd.slice e k) (fun xs => xs.length * B ≤ 140737488351232 ∧ ∀ x ∈ xs, good x) :=
  ⟨hs, fun {H enc w base spare held fuel cs x} h hw => by
    rcases open_slice ht h with ⟨rfl, rfl⟩ | ⟨a, len, cap, m, n, D, Pl, rfl, hb, hl, hm, hmm, rfl, hi⟩
    · exact ⟨[], ⟨none, 0, rfl, Nat.le_refl _, Kd.C_nil _ _⟩, by simp, fun x hx => by cases hx⟩
    · have hlm : len ≤ m := by rw [hmm]; split <;> omega
      have hwt : ∀ n ∈ DataW.weights P t (.slice ((List.range len).map D) ((List.range (m - len)).map fun j => D (len + j))), n ≤ 140737488351232 := hw
      have hel : ∀ i, i < len → ∃ (p : α), ∃ c, w.cells? base (a.add (i * P.cellsOf e)) (P.cellsOf e) = some c ∧ k.K w p c ∧ good p := by
        intro i hlt
        obtain ⟨c, hc, hT⟩ := hi i (by omega)
        obtain ⟨p, hp, hg⟩ := he.take hT (by
          intro q hq
          refine hwt q ?_
          simp only [DataW.weights, ht, List.mem_cons, List.mem_append]
          exact .inr (.inl (weightsAll_mem (List.mem_map.2 ⟨i, List.mem_range.2 hlt, rfl⟩) q hq)))
        exact ⟨p, c, hc, hp, hg⟩
      have hch : ∃ xs : List α, xs.length = len ∧ ∀ (i : Nat) (p : α), xs[i]? = some p → ∃ c, w.cells? base (a.add (i * P.cellsOf e)) (P.cellsOf e) = some c ∧ k.K w p c ∧ good p := by
        clear hwt hw h hi hl hm hmm hlm
        induction len with
        | zero => exact ⟨[], rfl, fun i p hp => by simp at hp⟩
        | succ len ih =>
          obtain ⟨xs, hx, hxs⟩ := ih (fun i hi => hel i (Nat.lt_succ_of_lt hi))
          obtain ⟨p, hp⟩ := hel len (Nat.lt_succ_self _)
          refine ⟨xs ++ [p], by simp [hx], fun i q hq => ?_⟩
          by_cases hil : i < xs.length
          · rw [List.getElem?_append_left hil] at hq
            exact hxs i q hq
          · have hlt : i < (xs ++ [p]).length := (List.getElem?_eq_some_iff.1 hq).1
            simp at hlt
            obtain rfl : i = xs.length := by omega
            simp at hq
            subst hq
            rw [hx]
            exact hp
      obtain ⟨xs, hx, hxs⟩ := hch
      refine ⟨xs, ⟨some a, cap, by rw [hx], by rw [hx]; exact hl, ?_⟩, ?_, ?_⟩
      · refine ⟨rfl, by simp only [maxLen] at hm; omega, fun _ => ⟨a, rfl, fun j p hj => ?_⟩⟩
        obtain ⟨c, hc, hk, _⟩ := hxs j p hj
        have hck := k.K_len hk
        obtain ⟨_, hcl, hat⟩ := World.cells?_some hc
        refine ⟨c, hck, hk, fun i u hu => ?_⟩
        have hi' : i < c.length := (List.getElem?_eq_some_iff.1 hu).1
        have h1 := hat (i := i) (by rw [← he.sz] at hck; omega)
        rw [Deep.add_add] at h1
        rw [← he.sz, h1, hu]
      · have h1 : (len + (m - len)) * P.bytesOf e ≤ 140737488351232 := hwt _ (by simp [DataW.weights, ht])
        rw [hB] at h1
        rw [hx]
        exact Nat.le_trans (Nat.mul_le_mul_right _ (by omega)) h1
      · intro x hx'
        obtain ⟨i, hi', rfl⟩ := List.getElem_of_mem hx'
        obtain ⟨c, _, _, hg⟩ := hxs i _ (List.getElem?_eq_getElem hi')
        exact hg⟩

/-- Fields in line, from an offset on. -/
structure FitF (P : Program) (fs : List Field) (off : Nat) {α : Type} (k : Kd α) (good : α → Prop) : Prop where
  take : ∀ {H : Type} {enc : TypeId × Value → H} {w : World} {base : Nat} {spare : Nat → Bool} {held : Bool} {fuel : Nat} {cs : List Value} {xs : List (DataW H × List MemPlace)},
    xs.length = fs.length → (∀ (i : Nat) (f : Field), fs[i]? = some f → DataW.trod enc P w base spare held fuel f.type ((cs.drop f.offset).take (P.cellsOf f.type)) = xs[i]?) →
    cs.length = off + k.sz → (∀ n ∈ DataW.weightsEach P (fs.map (·.type)) (xs.map (·.1)), n ≤ 140737488351232) → ∃ a, k.K w a (cs.drop off) ∧ good a

theorem FitF.last {P : Program} {f : Field} {off : Nat} {α : Type} {k : Kd α} {good : α → Prop} (hf : Fit P f.type k good) (ho : f.offset = off) : FitF P [f] off k good :=
  ⟨fun {H enc w base spare held fuel cs xs} hl h hc hw => by
    match xs, hl with
    | [y], _ =>
      have h0 := h 0 f rfl
      rw [ho, hf.sz, List.take_of_length_le (by rw [List.length_drop]; omega)] at h0
      exact hf.take (x := y) h0 (fun n hn => hw n (by simp [DataW.weightsEach]; exact hn))⟩

theorem FitF.cons {P : Program} {f : Field} {fs : List Field} {off : Nat} {α β : Type} {k : Kd α} {k' : Kd β} {good : α → Prop} {good' : β → Prop} (hf : Fit P f.type k good) (ho : f.offset = off) (hfs : FitF P fs (off + k.sz) k' good') :
    FitF P (f :: fs) off (Kd.pair k k') (fun x => good x.1 ∧ good' x.2) :=
  ⟨fun {H enc w base spare held fuel cs xs} hl h hc hw => by
    match xs, hl with
    | y :: ys, hl =>
      have hc' : cs.length = off + (k.sz + k'.sz) := hc
      have h0 := h 0 f rfl
      rw [ho, hf.sz] at h0
      obtain ⟨a, ha, hga⟩ := hf.take (x := y) h0 (fun n hn => hw n (by simp only [List.map_cons, DataW.weightsEach, List.mem_append]; exact .inl hn))
      obtain ⟨b, hb, hgb⟩ := hfs.take (xs := ys) (by simpa using hl) (fun i g hg => by have := h (i + 1) g (by simpa using hg); simpa using this) (by omega)
        (fun n hn => hw n (by simp only [List.map_cons, DataW.weightsEach, List.mem_append]; exact .inr hn))
      refine ⟨(a, b), ⟨(cs.drop off).take k.sz, cs.drop (off + k.sz), ?_, ha, hb⟩, hga, hgb⟩
      rw [← List.drop_drop, List.take_append_drop]⟩

theorem Fit.struct {P : Program} {t : TypeId} {fs : Array Field} {α : Type} {k : Kd α} {good : α → Prop} (ht : P.underlying t = some (.struct fs)) (hs : P.cellsOf t = k.sz) (hf : FitF P fs.toList 0 k good) : Fit P t k good :=
  ⟨hs, fun {H enc w base spare held fuel cs x} h hw => by
    obtain ⟨xs, n, rfl, rfl, hc, hl, hg⟩ := DataW.trod_struct ht h
    have := hf.take (xs := xs) (by simpa using hl) (fun i f hi => hg i f (by simpa using hi)) (by rw [hc, hs]; omega) (fun q hq => hw q (by simpa [DataW.weights, ht] using hq))
    simpa using this⟩

/-- A parameter: its value's cells, and what the kind says of them. -/
theorem Fit.param {P : Program} {t : TypeId} {α : Type} {k : Kd α} {good : α → Prop} (hf : Fit P t k good) {H : Type} {enc : TypeId × Value → H} {w : World} {base : Nat} {spare : Nat → Bool} {held : Bool} {v : Value} {d : DataW H} {ps : List MemPlace}
    {ts : List TypeId} {ds : List (DataW H)} {j : Nat} (hsz : (DataW.weightsEach P ts ds).all (· ≤ reachBytes) = true) (hj : ts[j]? = some t) (hd : ds[j]? = some d) (h : DataW.Trod enc P w base spare held t v d ps) :
    ∃ a, k.K w a v.cells.toList ∧ good a := by
  obtain ⟨fuel, h⟩ := h
  refine hf.take h fun n hn => ?_
  have := List.all_eq_true.1 hsz _ (DataW.weights_mem_each hj hd n hn)
  exact of_decide_eq_true this

end Go.Proofs.Ytlaidcoickeihaa.Fit
