/- Rows of bytes that a conversion of a text has made: what lies in them, stores into them, and the text that they are turned back into. -/
import Derived.Test.YtbjcioihomeikaaZFnBuddiesWMore
import Derived.Lib.ConvBytes
set_option linter.unusedVariables false
set_option linter.unusedSimpArgs false
namespace Go.Proofs.Ytbjcioihomeikaa.Bytes
open Go Go.RowKit Go.Proofs.YtbjcioihomeikaaW.PrintWords

/-- Block g holds the numbers ys (and as many cells behind them as its capacity has), and the mark of a conversion. -/
def RowB (w : World) (e g : Nat) (ys : List Int) : Prop := ∃ cur : Array Value, w.heap[g]? = some (.cells cur e (cur.size, cur.size + 1)) ∧ ys.length ≤ cur.size ∧ ∀ j, j < ys.length → cur[j]? = some (.int .u8 (ys.getD j 0))

section
variable {w w1 : World} {e g : Nat} {ys : List Int}
theorem RowB.cell (h : RowB w e g ys) (j : Nat) (hj : j < ys.length) : w.cell? ⟨g, j, none⟩ = some (.int .u8 (ys.getD j 0)) := by
  obtain ⟨cur, hb, _, hc⟩ := h
  rw [cell_of_row w g j cur e _ hb]
  exact hc j hj
theorem RowB.free (h : RowB w e g ys) (j : Nat) (hj : j < ys.length) : w.frozen? ⟨g, j, none⟩ = false := by
  obtain ⟨cur, hb, hl, _⟩ := h
  simp only [World.frozen?, hb]
  simp
  omega
theorem RowB.drewN (h : RowB w e g ys) (n : Nat) : RowB (w.drewN n) e g ys := h
theorem RowB.drew (h : RowB w e g ys) : RowB w.drew e g ys := h
theorem RowB.lt (h : RowB w e g ys) : g < w.heap.size := by
  obtain ⟨cur, hb, _⟩ := h
  exact (Array.getElem?_eq_some_iff.mp hb).1
theorem RowB.below (h : RowB w e g ys) (hb : Below w.heap.size w w1) : RowB w1 e g ys := by
  have hl := h.lt
  obtain ⟨cur, h1, h2⟩ := h
  exact ⟨cur, by rw [hb.block g hl]; exact h1, h2⟩
theorem getD_set (xs : List Int) (i j : Nat) (v : Int) (hi : i < xs.length) : (xs.set i v).getD j 0 = if j = i then v else xs.getD j 0 := by
  simp only [List.getD_eq_getElem?_getD, List.getElem?_set]
  by_cases h : i = j
  · subst h; simp [hi]
  · rw [if_neg h, if_neg (fun e => h e.symm)]
theorem RowB.set (h : RowB w e g ys) (i : Nat) (hi : i < ys.length) (v : Int) : RowB (w.setCell ⟨g, i, none⟩ (.int .u8 v)) e g (ys.set i v) := by
  obtain ⟨cur, hb, hl, hc⟩ := h
  refine ⟨cur.setIfInBounds i (.int .u8 v), ?_, ?_, fun j hj => ?_⟩
  · have hg := (Array.getElem?_eq_some_iff.mp hb).1
    have h2 : w.heap[g] = .cells cur e (cur.size, cur.size + 1) := (Array.getElem?_eq_some_iff.mp hb).2
    show (w.heap.modify g _)[g]? = _
    rw [Array.getElem?_modify, if_pos rfl, hb]
    simp
  · simpa using hl
  · rw [List.length_set] at hj
    rw [getD_set _ _ _ _ hi, Array.getElem?_setIfInBounds]
    by_cases hij : i = j
    · subst hij; simp; omega
    · rw [if_neg hij, if_neg (fun e => hij e.symm)]; exact hc j hj
/-- Turned into a text. -/
theorem RowB.text {P : Program} {src dst el : TypeId} (h : RowB w e g ys) (hs : P.underlying src = some (.slice el)) (he : P.underlying el = some (.int .u8)) (hd : P.underlying dst = some .string) (n c : Nat) (hn : n = ys.length) :
    (convert src dst (.slice (some ⟨g, 0, none⟩) n c)).run P w = .ok (.string (strOfNums ys)) w := by
  subst hn
  exact run_convert_bytes_arg w src el hs he g 0 _ c ys rfl (fun i hi => by rw [Nat.zero_add]; exact h.cell i hi) dst hd
end
end Go.Proofs.Ytbjcioihomeikaa.Bytes
