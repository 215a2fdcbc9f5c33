/- Rows of bytes that a conversion of a text has made: what lies in them, stores into them, and the text that they are turned back into. -/
import Derived.Test.YtmgbfbpolmbnfaaWMore
import Derived.Lib.ConvBytes
set_option linter.unusedVariables false
set_option linter.unusedSimpArgs false
namespace Go.Proofs.Ytmgbfbpolmbnfaa.Bytes
open Go Go.RowKit Go.Proofs.YtmgbfbpolmbnfaaW.PrintWords

/-- Block g holds the numbers ys (and as many cells behind them as its capacity has), and the mark of a conversion. -/
def RowB (w : World) (e g : Nat) (ys : List Int) : Prop := ∃ cur : Array Value, w.heap[g]? = some (.cells cur e (cur.size, cur.size + 1)) ∧ ys.length ≤ cur.size ∧ ∀ j, j < ys.length → cur[j]? = some (.int .u8 (ys.getD j 0))

section
variable {w w1 : World} {e g : Nat} {ys : List Int}
theorem RowB.cell (h : RowB w e g ys) (j : Nat) (hj : j < ys.length) : w.cell? ⟨g, j, none⟩ = some (.int .u8 (ys.getD j 0)) := by
  obtain ⟨cur, hb, _, hc⟩ := h
  rw [cell_of_row w g j cur e _ hb]
  exact hc j hj
theorem RowB.free (h : RowB w e g ys) (j : Nat) (hj : j < ys.length) : w.frozen? ⟨g, j, none⟩ = false := by
  obtain ⟨cur, hb, hl, _⟩ := h
  simp only [World.frozen?, hb]
  simp
  omega
theorem RowB.drewN (h : RowB w e g ys) (n : Nat) : RowB (w.drewN n) e g ys := h
theorem RowB.drew (h : RowB w e g ys) : RowB w.drew e g ys := h
theorem RowB.lt (h : RowB w e g ys) : g < w.heap.size := by
  obtain ⟨cur, hb, _⟩ := h
  exact (Array.getElem?_eq_some_iff.mp hb).1
theorem RowB.below (h : RowB w e g ys) (hb : Below w.heap.size w w1) : RowB w1 e g ys := by
  have hl := h.lt
  obtain ⟨cur, h1, h2⟩ := h
  exact ⟨cur, by rw [hb.block g hl]; exact h1, h2⟩
theorem getD_set (xs : List Int) (i j : Nat) (v : Int) (hi : i < xs.length) : (xs.set i v).getD j 0 = if j = i then v else xs.getD j 0 := by
  simp only [List.getD_eq_getElem?_getD, List.getElem?_set]
  by_cases h : i = j
  · subst h; simp [hi]
  · rw [if_neg h, if_neg (fun e => h e.symm)]
theorem RowB.set (h : RowB w e g ys) (i : Nat) (hi : i < ys.length) (v : Int) : RowB (w.setCell ⟨g, i, none⟩ (.int .u8 v)) e g (ys.set i v) := by
  obtain ⟨cur, hb, hl, hc⟩ := h
  refine ⟨cur.setIfInBounds i (.int .u8 v), ?_, ?_, fun j hj => ?_⟩
  · have hg := (Array.getElem?_eq_some_iff.mp hb).1
    have h2 : w.heap[g] = .cells cur e (cur.size, cur.size + 1) := (Array.getElem?_eq_some_iff.mp hb).2
    show (w.heap.modify g _)[g]? = _
    rw [Array.getElem?_modify, if_pos rfl, hb]
    simp
  · simpa using hl
  · rw [List.length_set] at hj
    rw [getD_set _ _ _ _ hi, Array.getElem?_setIfInBounds]
    by_cases hij : i = j
    · subst hij; simp; omega
    · rw [if_neg hij, if_neg (fun e => hij e.symm)]; exact hc j hj
theorem RowB.setBelow {w0 : World} (hb : Below w0.heap.size w0 w) (hg : w0.heap.size ≤ g) (i : Nat) (v : Value) : Below w0.heap.size w0 (w.setCell ⟨g, i, none⟩ v) := hb.setCell hg v
/-- Turned into a text. -/
theorem RowB.text {P : Program} {src dst el : TypeId} (h : RowB w e g ys) (hs : P.underlying src = some (.slice el)) (he : P.underlying el = some (.int .u8)) (hd : P.underlying dst = some .string) (n c : Nat) (hn : n = ys.length) :
    (convert src dst (.slice (some ⟨g, 0, none⟩) n c)).run P w = .ok (.string (strOfNums ys)) w := by
  subst hn
  exact run_convert_bytes_arg w src el hs he g 0 _ c ys rfl (fun i hi => by rw [Nat.zero_add]; exact h.cell i hi) dst hd
theorem bytesWorld_below (w : World) (e : TypeId) (s : ByteArray) : Below w.heap.size w (Lib.bytesWorld w e s) := by
  refine ⟨rfl, rfl, rfl, ?_, fun i hi => Lib.bytesWorld_at_old w e s i hi⟩
  rw [Lib.bytesWorld_size]; omega
theorem bytesWorld_row (w : World) (e : TypeId) (s : ByteArray) : RowB (Lib.bytesWorld w e s) e w.heap.size (bytesOf s) := by
  refine ⟨Lib.bytesCells w e s, Lib.bytesWorld_at_new w e s, ?_, fun j hj => ?_⟩
  · rw [bytesOf_length]
    unfold Lib.bytesCells
    have := grownCap_ge w s.size 0 e
    have hz : s.data.size = s.size := rfl
    simp
  · rw [bytesOf_length] at hj
    have hz : s.data.size = s.size := rfl
    unfold Lib.bytesCells
    rw [Array.getElem?_append_left (by simp; omega)]
    have h2 : j < s.data.size := by omega
    simp [bytesOf, List.getD_eq_getElem?_getD, h2]
    rw [Array.getElem?_eq_getElem h2]
    exact ⟨_, rfl, rfl⟩
end
/-- '[]byte(s)': a new row. -/
theorem conv_event {P : Program} {ops : Array Oper} {rest : List Oper} {o : Oper} {a : Act} {Q : Exit → Act → World → Prop} {W : World} (hgd : o.guard = none) {N : Tmp} (_hd : o.dst = some N) {src dst e : TypeId} {s : ByteArray} {u : TypeDesc}
    (hs : P.underlying src = some u) (hd : P.underlying dst = some (.slice e)) (he : P.underlying e = some (.int .u8))
    (hex : (execOp a.eval o).run P W = ((convert src dst (.string s)).run P W).andThen fun v w' => .ok (.value v) w')
    (h : ∀ g c w1, g = W.heap.size → RowB w1 e g (bytesOf s) → Below W.heap.size W w1 → s.size ≤ c → wpList P ops Q rest (a.put o.dst (.slice (some ⟨g, 0, none⟩) s.size c)) w1) : wpList P ops Q (o :: rest) a W := by
  refine Kd.event_run hgd (w1 := Lib.bytesWorld W e s) (v := .slice (some ⟨W.heap.size, 0, none⟩) s.size (grownCap W s.size 0 e)) ?_ (h _ _ _ rfl (bytesWorld_row W e s) (bytesWorld_below W e s) (grownCap_ge W s.size 0 e))
  rw [hex, Lib.run_convert_string_bytes W src dst e s hs hd he]
  rfl
/-- All of a row of answers, if each is one. -/
def allOf (g : Nat → Option Int) : Nat → Option (List Int)
  | 0 => some []
  | n + 1 => (allOf g n).bind fun l => (g n).bind fun v => some (l ++ [v])
theorem allOf_tells {g : Nat → Option Int} : ∀ {n : Nat} {l : List Int}, allOf g n = some l → l.length = n ∧ ∀ j, j < n → g j = some (l.getD j 0) := by
  intro n
  induction n with
  | zero => intro l h; obtain rfl := Option.some.inj h; exact ⟨rfl, fun j hj => by omega⟩
  | succ n ih =>
    intro l h
    obtain ⟨l1, h1, h2⟩ := Option.bind_eq_some_iff.mp h
    obtain ⟨v, h3, h4⟩ := Option.bind_eq_some_iff.mp h2
    obtain rfl := Option.some.inj h4
    obtain ⟨hl, hj⟩ := ih h1
    refine ⟨by simp [hl], fun j hjn => ?_⟩
    by_cases hlt : j < n
    · rw [hj j hlt, List.getD_eq_getElem?_getD, List.getD_eq_getElem?_getD, List.getElem?_append_left (by omega)]
    · have : j = n := by omega
      subst this
      rw [h3, List.getD_eq_getElem?_getD, List.getElem?_append_right (by omega)]
      simp [hl]
theorem allOf_of {g : Nat → Option Int} {f : Nat → Int} : ∀ (n : Nat), (∀ j, j < n → g j = some (f j)) → allOf g n = some ((List.range n).map f) := by
  intro n
  induction n with
  | zero => intro _; rfl
  | succ n ih =>
    intro h
    rw [allOf, ih (fun j hj => h j (by omega)), h n (by omega), List.range_succ]
    simp
theorem allOf_mono {g g' : Nat → Option Int} (h : ∀ j, LeO (g j) (g' j)) : ∀ n, LeO (allOf g n) (allOf g' n)
  | 0 => LeO.refl _
  | n + 1 => LeO.bind (allOf_mono h n) (fun _ => LeO.bind (h n) (fun _ => LeO.refl _))
end Go.Proofs.Ytmgbfbpolmbnfaa.Bytes
