/- What an argument reads as, opened by its type into the kinds that the walks speak of: numbers, bools, texts, slices of anything, structs of two or three fields. -/
import Derived.Test.YtmgbfbpolmbnfaaWMore
import Derived.Deep.Slices
import Derived.Deep.Strs
import Derived.OpenShut
set_option linter.unusedVariables false
namespace Go.Proofs.Ytmgbfbpolmbnfaa.Open
open Go Go.RowKit Go.ChangeShapes Go.WideShapes Go.Deep Go.Proofs.YtmgbfbpolmbnfaaW.PrintWords

/-- Whatever reads as data of type t is of kind d, and is as 'ok' says. -/
def TOpen {α : Type} (P : Program) (t : TypeId) (d : Kd α) (ok : α → Prop) : Prop :=
  ∀ {H : Type} {enc : TypeId × Value → H} {W : World} {base : Nat} {spare : Nat → Bool} {held : Bool} (fuel : Nat) (cs : List Value) (x : DataW H × List MemPlace),
    DataW.trod enc P W base spare held fuel t cs = some x → ∃ y, ok y ∧ d.K W y cs

section
variable {P : Program} {t e : TypeId}
theorem topen_mono {α : Type} {d : Kd α} {ok ok' : α → Prop} (h : TOpen P t d ok) (hk : ∀ x, ok x → ok' x) : TOpen P t d ok' := fun fuel cs x hx => by
  obtain ⟨y, h1, h2⟩ := h fuel cs x hx
  exact ⟨y, hk y h1, h2⟩
theorem topen_int {k : IntKind} (ht : P.underlying t = some (.int k)) : TOpen P t (Kd.int k) (fun x => (Lit.int k x).wf = true) := fun fuel cs x hx => by
  obtain ⟨n, rfl, _, hw⟩ := DataW.trod_int ht hx
  exact ⟨n, hw, rfl⟩
theorem topen_bool (ht : P.underlying t = some .bool) : TOpen P t Kd.bool (fun _ => True) := fun fuel cs x hx => by
  obtain ⟨b, rfl, _⟩ := DataW.trod_bool ht hx
  exact ⟨b, trivial, rfl⟩
theorem topen_string (ht : P.underlying t = some .string) : TOpen P t Kd.string (fun x => x.size ≤ maxLen) := fun fuel cs x hx => by
  obtain ⟨s, rfl, _, hs⟩ := DataW.trod_string ht hx
  exact ⟨s, hs, rfl⟩
theorem list_of {α : Type} (p : Nat → α → Prop) (n : Nat) : (∀ i, i < n → ∃ x, p i x) → ∃ xs : List α, xs.length = n ∧ ∀ (i : Nat) (x : α), xs[i]? = some x → p i x := by
  induction n with
  | zero => intro _; exact ⟨[], rfl, fun i x h => by simp at h⟩
  | succ n ih =>
    intro h
    obtain ⟨xs, hl, hp⟩ := ih (fun i hi => h i (by omega))
    obtain ⟨x, hx⟩ := h n (by omega)
    refine ⟨xs ++ [x], by simp [hl], fun i y hy => ?_⟩
    by_cases hi : i < xs.length
    · rw [List.getElem?_append_left hi] at hy; exact hp i y hy
    · rw [List.getElem?_append_right (by omega)] at hy
      by_cases h0 : i - xs.length = 0
      · rw [h0] at hy
        have : i = n := by omega
        subst this
        obtain rfl : x = y := by simpa using hy
        exact hx
      · rw [List.getElem?_eq_none (by simp; omega)] at hy; cases hy
theorem topen_slice {α : Type} {d : Kd α} {ok : α → Prop} (ht : P.underlying t = some (.slice e)) (hc : P.cellsOf e = d.sz) (he : TOpen P e d ok) :
    TOpen P t (Kd.slice e d) (fun xs => xs.length ≤ maxLen ∧ ∀ x ∈ xs, ok x) := by
  intro H enc W base spare held fuel cs x hx
  rcases open_slice ht hx with ⟨rfl, _⟩ | ⟨a, len, cap, m, n, D, Pl, rfl, hb, hl, hm, hmm, _, hx⟩
  · exact ⟨[], ⟨Nat.zero_le _, fun x hx => by cases hx⟩, none, 0, rfl, Nat.le_refl _, rfl, by simp, fun h => absurd h (by simp)⟩
  · obtain ⟨xs, hlen, hp⟩ := list_of (fun i x => ok x ∧ ∃ c, c.length = d.sz ∧ d.K _ x c ∧ ∀ (j : Nat) (u : Value), c[j]? = some u → W.cell? (a.add (i * d.sz + j)) = some u) len (fun i hi => by
      obtain ⟨cs', h1, h2⟩ := hx i (by split at hmm <;> omega)
      obtain ⟨y, hy, hK⟩ := he n cs' _ h2
      obtain ⟨_, hlen', hcell⟩ := World.cells?_some h1
      exact ⟨y, hy, cs', by rw [hlen', hc], hK, fun j u hu => by
        have hj : j < P.cellsOf e := by rw [← hlen']; exact (List.getElem?_eq_some_iff.mp hu).1
        have h3 := hcell j hj
        rw [hc] at h3
        rw [Addr.add_add] at h3
        rw [h3, hu]⟩)
    refine ⟨xs, ⟨by omega, fun x hx => ?_⟩, some a, cap, by rw [hlen], by omega, rfl, by rw [hlen]; unfold maxLen at hm; omega, fun _ => ⟨a, rfl, fun j p hj => ?_⟩⟩
    · obtain ⟨i, hi, he⟩ := List.getElem_of_mem hx
      exact (hp i x (by rw [List.getElem?_eq_some_iff]; exact ⟨hi, he⟩)).1
    · exact (hp j p hj).2
theorem topen_iso {α β : Type} {d : Kd α} {ok : α → Prop} (f : β → α) (g : α → β) (hfg : ∀ y, f (g y) = y) (h : TOpen P t d ok) : TOpen P t (Kd.iso d f) (fun x => ok (f x)) := fun fuel cs x hx => by
  obtain ⟨y, h1, h2⟩ := h fuel cs x hx
  exact ⟨g y, by show ok (f (g y)); rw [hfg]; exact h1, by show d.K _ (f (g y)) cs; rw [hfg]; exact h2⟩
theorem topen_struct2 {α β : Type} {da : Kd α} {db : Kd β} {oa : α → Prop} {ob : β → Prop} {f0 f1 : Field} (ht : P.underlying t = some (.struct #[f0, f1]))
    (hc : (P.cellsOf t == da.sz + db.sz && P.cellsOf f0.type == da.sz && P.cellsOf f1.type == db.sz && f0.offset == 0 && f1.offset == da.sz) = true)
    (h0 : TOpen P f0.type da oa) (h1 : TOpen P f1.type db ob) : TOpen P t (Kd.pair da db) (fun x => oa x.1 ∧ ob x.2) := fun fuel cs x hx => by
  simp only [Bool.and_eq_true, beq_iff_eq] at hc
  obtain ⟨⟨⟨⟨c0, c1⟩, c2⟩, c3⟩, c4⟩ := hc
  obtain ⟨y0, y1, n, _, hl, t0, t1⟩ := trod_struct2 ht hx
  obtain ⟨a, ha, hA⟩ := h0 _ _ _ t0
  obtain ⟨b, hb, hB⟩ := h1 _ _ _ t1
  rw [c3, c1, List.drop_zero] at hA
  rw [c4, c2, List.take_of_length_le (by rw [List.length_drop, hl]; omega)] at hB
  exact ⟨(a, b), ⟨ha, hb⟩, _, _, (List.take_append_drop da.sz cs).symm, hA, hB⟩
theorem topen_struct3 {α β γ : Type} {da : Kd α} {db : Kd β} {dc : Kd γ} {oa : α → Prop} {ob : β → Prop} {oc : γ → Prop} {f0 f1 f2 : Field} (ht : P.underlying t = some (.struct #[f0, f1, f2]))
    (hc : (P.cellsOf t == da.sz + (db.sz + dc.sz) && P.cellsOf f0.type == da.sz && P.cellsOf f1.type == db.sz && P.cellsOf f2.type == dc.sz && f0.offset == 0 && f1.offset == da.sz && f2.offset == da.sz + db.sz) = true)
    (h0 : TOpen P f0.type da oa) (h1 : TOpen P f1.type db ob) (h2 : TOpen P f2.type dc oc) : TOpen P t (Kd.pair da (Kd.pair db dc)) (fun x => oa x.1 ∧ ob x.2.1 ∧ oc x.2.2) := fun fuel cs x hx => by
  simp only [Bool.and_eq_true, beq_iff_eq] at hc
  obtain ⟨⟨⟨⟨⟨⟨c0, c1⟩, c2⟩, c3⟩, c4⟩, c5⟩, c6⟩ := hc
  obtain ⟨y0, y1, y2, n, _, hl, t0, t1, t2⟩ := trod_struct3 ht hx
  obtain ⟨a, ha, hA⟩ := h0 _ _ _ t0
  obtain ⟨b, hb, hB⟩ := h1 _ _ _ t1
  obtain ⟨c, hc', hC⟩ := h2 _ _ _ t2
  rw [c4, c1, List.drop_zero] at hA
  rw [c5, c2] at hB
  rw [c6, c3, List.take_of_length_le (by rw [List.length_drop, hl]; omega), ← List.drop_drop] at hC
  exact ⟨(a, b, c), ⟨ha, hb, hc'⟩, _, _, (List.take_append_drop da.sz cs).symm, hA, _, _, (List.take_append_drop db.sz _).symm, hB, hC⟩

/-- A slice that is an argument by itself. -/
theorem open_slice_of {α : Type} {d : Kd α} {ok : List α → Prop} {H : Type} {enc : TypeId × Value → H} {W : World} {base : Nat} {spare : Nat → Bool} {held : Bool} {a : Option Addr} {len cap : Nat} {x : DataW H} {ps : List MemPlace}
    (h : TOpen P t (Kd.slice e d) ok) (hx : DataW.Trod enc P W base spare held t (.slice a len cap) x ps) : ∃ l, ok l ∧ len = l.length ∧ l.length ≤ cap ∧ Kd.C d W a l.length l := by
  obtain ⟨fuel, hf⟩ := hx
  obtain ⟨l, ho, A, c, e1, hl, hC⟩ := h fuel _ _ hf
  simp [Value.cells] at e1
  obtain ⟨rfl, rfl, rfl⟩ := e1
  exact ⟨l, ho, rfl, hl, hC⟩
theorem open_field_slice {α : Type} {d : Kd α} {ok : List α → Prop} {H : Type} {enc : TypeId × Value → H} {W : World} {base : Nat} {spare : Nat → Bool} {held : Bool} {v : Value} {n : Nat} {x : DataW H × List MemPlace}
    (h : TOpen P t (Kd.slice e d) ok) (hx : DataW.trod enc P W base spare held n t [v] = some x) : ∃ (A : Option Addr) (c : Nat) (l : List α), ok l ∧ v = .slice A l.length c ∧ l.length ≤ c ∧ Kd.C d W A l.length l := by
  obtain ⟨l, ho, A, c, e1, hl, hC⟩ := h n _ _ hx
  obtain rfl : v = _ := by simpa using e1
  exact ⟨A, c, l, ho, rfl, hl, hC⟩
theorem open_field_scalar {α : Type} {en : α → Value} {h1 : ∀ x, (en x).oneCell' = true} {ok : α → Prop} {H : Type} {enc : TypeId × Value → H} {W : World} {base : Nat} {spare : Nat → Bool} {held : Bool} {v : Value} {n : Nat} {x : DataW H × List MemPlace}
    (h : TOpen P t (Kd.scalar en h1) ok) (hx : DataW.trod enc P W base spare held n t [v] = some x) : ∃ y, ok y ∧ v = en y := by
  obtain ⟨y, ho, e1⟩ := h n _ _ hx
  have e2 : [v] = [en y] := e1
  exact ⟨y, ho, by simpa using e2⟩
end
end Go.Proofs.Ytmgbfbpolmbnfaa.Open
