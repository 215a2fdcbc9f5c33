/- The walks of FnBuddies: Go's calls come to what the Lean functions beside them say; no condition. -/
import Derived.Test.YtbjcioihomeikaaProg
import Derived.Below
import Derived.Deep.Draws
import Derived.Deep.AppendLies
import Derived.Maps.AppendAt
import Derived.OwnWalk
import Derived.Laws.BytesArg
import Derived.Laws.MakeOwn
import Derived.Laws.OwnMore
import Derived.Deep.OwnRows
import Derived.Tactics
import Derived.Lib.ConvBytes
import Derived.Laws.Slices
import Derived.WalkKit
import Derived.KernelRfl
import Derived.RowKit3
import Derived.Deep.LoopGhost
import Derived.Deep.QuietTactic
import Derived.BigQuiet
import Derived.WideLaws
import Derived.Deep.DeepCutAuto
import Derived.Deep.CutBlock
import Derived.Deep.RegionHeld3
import Derived.Laws.Rows
import Derived.Lib.AppendStr
import Derived.ArgAppend
import Derived.Laws.IdiomCopy
import Derived.OrdersHeld
import Derived.Laws.BitsLemmas
import Derived.RowKit
import Derived.Test.YtbjcioihomeikaaZFnBuddiesBytes
import Derived.Shelf.Abstract
import Derived.Laws.CopyRow
import Derived.Lib.AppendZerosOnto
import Derived.Lib.Overlaps
import Derived.Shelf.SlSortCmp.NoneTotal
import Derived.Test.YtbjcioihomeikaaZFnBuddiesWWords
import Derived.Test.YtbjcioihomeikaaZFnBuddiesWLast
import Derived.Test.YtbjcioihomeikaaZFnBuddiesWTab
import Derived.Test.YtbjcioihomeikaaZFnBuddiesWFour
import Derived.Test.YtbjcioihomeikaaZFnBuddiesWQPut
import Derived.Test.YtbjcioihomeikaaZFnBuddiesWApart
import Derived.Test.YtbjcioihomeikaaZFnBuddiesWArr
import Derived.Test.YtbjcioihomeikaaZFnBuddiesWZeros
import Derived.Test.YtbjcioihomeikaaZFnBuddiesWFoot
import Derived.Test.YtbjcioihomeikaaZFnBuddiesWKept
import Derived.Test.YtbjcioihomeikaaZFnBuddiesWShare
import Derived.Test.YtbjcioihomeikaaZFnBuddiesWN
import Derived.Test.YtbjcioihomeikaaZFnBuddiesWFootNe
import Derived.Test.YtbjcioihomeikaaZFnBuddiesWAt
import Derived.Test.YtbjcioihomeikaaZFnBuddiesWEqStruct
import Derived.Test.YtbjcioihomeikaaZFnBuddiesWRepsOne
import Derived.Test.YtbjcioihomeikaaZFnBuddiesWInv
import Derived.Test.YtbjcioihomeikaaZFnBuddiesWInvWords
import Derived.Test.YtbjcioihomeikaaZFnBuddiesWGuard
import Derived.Test.YtbjcioihomeikaaZFnBuddiesWNEv
import Derived.Test.YtbjcioihomeikaaZFnBuddiesWMore
namespace Go.Proofs.Ytbjcioihomeikaa.PFnBuddies
open Go.RowKit Go.Proofs.YtbjcioihomeikaaW.PrintWords Go.Proofs.YtbjcioihomeikaaW.PrintLast Go.Proofs.YtbjcioihomeikaaW.PrintMore
attribute [local go_sem] max2_int min2_int max_two min_two max_three min_three max_four min_four   -- for this text's walks alone
set_option linter.unusedVariables false
set_option linter.unusedSimpArgs false
set_option maxRecDepth 100000



def errW : Option Int → Value
  | none => .nilIface
  | some c => .iface 0 (.int .i64 c)
theorem errW_none : errW none = .nilIface := rfl
theorem errW_some (c : Int) : errW (some c) = .iface 0 (.int .i64 c) := rfl

theorem info45 : (Try.prog.info? 45).map (fun i => (i.zero, i.size, i.bytes)) = some (some (.agg #[(.int .i64 0), (.int .i64 0)]), 2, 16) := by kernel_rfl
-- the values' own types
/-! #### struct type 45 -/
structure S45 where
  f0 : Int
  f1 : Int
def z45 : S45 := ⟨(0 : Int), (0 : Int)⟩
def k45 : Kd S45 := Kd.iso (Kd.pair (Kd.int .i64) (Kd.int .i64)) (fun x : S45 => (x.f0, x.f1))
theorem k45_open {w : World} {x : S45} {cs : List Value} (h : k45.K w x cs) : cs = [.int .i64 x.f0, .int .i64 x.f1] := by
  obtain ⟨_, _, rfl, rfl, rfl⟩ := h
  exact rfl
theorem k45_openM {w : World} {base : Nat} {ok : Nat → Prop} {x : S45} {cs : List Value} (h : k45.M w base ok x cs) : cs = [.int .i64 x.f0, .int .i64 x.f1] := by
  obtain ⟨_, _, rfl, rfl, rfl⟩ := h
  exact rfl
theorem k45_mkM (w : World) (base : Nat) (ok : Nat → Prop) (x : S45)  : k45.M w base ok x [.int .i64 x.f0, .int .i64 x.f1] := ⟨[.int .i64 x.f0], [.int .i64 x.f1], rfl, rfl, rfl⟩
def rd_T45 (xs : List S45) (i : Int) : S45 := xs.getD i.toNat z45
theorem at_T45 {w : World} {A : Option Addr} {n : Nat} {xs : List S45} (h : Kd.C k45 w A n xs) (i : Int) (h0 : 0 ≤ i) (h1 : i < n) : ∃ ad , A = some ad ∧ w.cell? (ad.add (i.toNat * 2)) = some (.int .i64 (rd_T45 xs i).f0) ∧ w.cell? ⟨(ad.add (i.toNat * 2)).block, (ad.add (i.toNat * 2)).off + 1, none⟩ = some (.int .i64 (rd_T45 xs i).f1) := by
  obtain ⟨ad, c, e, _, hK, hc0⟩ := Kd.C_get h z45 i h0 h1
  have hc : ∀ j u, c[j]? = some u → w.cell? (ad.add (i.toNat * 2 + j)) = some u := hc0
  obtain rfl := k45_open hK
  exact ⟨ad, e, hc 0 _ rfl, by rw [← add_field _ _ 1 (by omega)]; exact hc 1 _ rfl⟩

/-! short names (SQUEEZED) -/
theorem zA {w W : World} (h : Below w.heap.size w W) (o : Obj) : Below w.heap.size w (W.alloc o) := below_alloc h o
theorem zN {B : Nat} {w W : World} (h : Below B w W) (n : Nat) : Below B w (W.drewN n) := pw_below_drewN h n
theorem zD {base : Nat} {w W : World} (h : Below base w W) : Below base w W.drew := below_drew1 h
theorem zS {w W : World} {g j : Nat} {v : Value} (h : Below w.heap.size w W) (hg : w.heap.size ≤ g) : Below w.heap.size w (W.setCell ⟨g, j, none⟩ v) := below_set h hg
theorem zT {w W w2 : World} (h : Below w.heap.size w W) (k : Below W.heap.size W w2) : Below w.heap.size w w2 := below_step h k
theorem zZ {w W : World} (h : Below w.heap.size w W) : w.heap.size ≤ W.heap.size := below_size h
theorem yD {w : World} {g : Nat} {o : Obj} (h : w.heap[g]? = some o) : w.drew.heap[g]? = some o := blk_drew h
theorem yA {w : World} {g : Nat} {o : Obj} (h : w.heap[g]? = some o) (o' : Obj) : (w.alloc o').heap[g]? = some o := blk_alloc h o'
theorem yP {w : World} {g : Nat} {t : TypeId} {cs cs' : Array Value} (h : w.heap[g]? = some (.cells cs t (0, 0))) (i : Nat) (u : Value) (e : cs.setIfInBounds i u = cs') : (w.setCell ⟨g, i, none⟩ u).heap[g]? = some (.cells cs' t (0, 0)) := blk_put h i u e
theorem yF {w : World} {g : Nat} {t : TypeId} {cs : Array Value} (h : w.heap[g]? = some (.cells cs t (0, 0))) {p : Addr} (hp : g ≠ p.block) (u : Value) : (w.setCell p u).heap[g]? = some (.cells cs t (0, 0)) := blk_far h hp u
theorem yB {w w1 : World} {g : Nat} {o : Obj} (h : w.heap[g]? = some o) (hb : Below w.heap.size w w1) : w1.heap[g]? = some o := blk_below h hb
theorem yC {w : World} {g : Nat} {t : TypeId} {cs : Array Value} (h : w.heap[g]? = some (.cells cs t (0, 0))) (i : Nat) : w.cell? ⟨g, i, none⟩ = cs[i]? := blk_cell h i
theorem yZ {w : World} {g : Nat} {t : TypeId} {cs : Array Value} (h : w.heap[g]? = some (.cells cs t (0, 0))) (i : Nat) : w.frozen? ⟨g, i, none⟩ = false := blk_frozen h i
theorem xA {α : Type} {d : Kd α} {e : Nat} {w : World} {base : Nat} {ok : Nat → Prop} {v : Value} {xs : List α} (h : d.R e w base ok v xs) (o : Obj) : d.R e (w.alloc o) base ok v xs := Kd.R_alloc h o
theorem xD {α : Type} {d : Kd α} {e : Nat} {w : World} {base : Nat} {ok : Nat → Prop} {v : Value} {xs : List α} (h : d.R e w base ok v xs) : d.R e w.drew base ok v xs := Kd.R_drew h
theorem xB {α : Type} {d : Kd α} {e : Nat} {w : World} {w1 : World} {base : Nat} {ok : Nat → Prop} {v : Value} {xs : List α} (h : d.R e w base ok v xs) (hb : Below w.heap.size w w1) : d.R e w1 base ok v xs := Kd.R_below h hb
theorem xL {α : Type} {d : Kd α} {e : Nat} {w : World} {base : Nat} {ok : Nat → Prop} {v : Value} {xs : List α} {base' : Nat} (h : d.R e w base ok v xs) (hb : base' ≤ base) : d.R e w base' ok v xs := Kd.R_lower h hb
theorem xM {α : Type} {d : Kd α} {e : Nat} {w : World} {base : Nat} {ok : Nat → Prop} {ok' : Nat → Prop} {v : Value} {xs : List α} (h : d.R e w base ok v xs) (hok : ∀ k, ok k → ok' k) : d.R e w base ok' v xs := Kd.R_mono h hok
theorem xF {α : Type} {d : Kd α} {e : Nat} {w : World} {base : Nat} {ok : Nat → Prop} {v : Value} {xs : List α} (h : d.R e w base ok v xs) {p : Addr} (hok : ∀ k, ok k → k ≠ p.block) (u : Value) : d.R e (w.setCell p u) base ok v xs := Kd.R_far h hok u
theorem xT {α : Type} {d : Kd α} {e : Nat} {w : World} {base : Nat} {ok : Nat → Prop} {v : Value} {xs : List α} (h : d.R e w base ok v xs) {g t : Nat} {cells : Array Value} (hb : w.heap[g]? = some (.cells cells t (0, 0))) (ht : ∀ q, q ∈ e :: d.E → q ≠ t) : d.R e w base (fun k => ok k ∧ k ≠ g) v xs := Kd.R_types h hb ht
theorem cA {α : Type} {d : Kd α} {w : World} {xs : List α} {A : Option Addr} {n : Nat} (h : d.C w A n xs) (o : Obj) : d.C (w.alloc o) A n xs := Kd.C_alloc h o
theorem cN {α : Type} {d : Kd α} {w : World} {xs : List α} {A : Option Addr} {n : Nat} (h : d.C w A n xs) (m : Nat) : d.C (w.drewN m) A n xs := Kd.C_drewN h m
theorem cD {α : Type} {d : Kd α} {w : World} {xs : List α} {A : Option Addr} {n : Nat} (h : d.C w A n xs) : d.C w.drew A n xs := Kd.C_drew h
theorem cB {α : Type} {d : Kd α} {w w1 : World} {xs : List α} {A : Option Addr} {n : Nat} (h : d.C w A n xs) (hb : Below w.heap.size w w1) : d.C w1 A n xs := Kd.C_below h hb
theorem aM {p : Prop} (h : p) : Aside0 p := ⟨h⟩

structure St (w W : World) : Prop where
  b : Below w.heap.size w W
theorem St.le {w W : World} (h : St w W) : w.heap.size ≤ W.heap.size := below_size h.b
theorem St.out {w W : World} (h : St w W) : ∀ k, k < w.heap.size → W.heap[k]? = w.heap[k]? := fun k hk => h.b.block k hk
theorem St.r (w : World) : St w w := ⟨Below.refl _ _⟩
theorem St.of {w W W2 : World} (h : St w W) (hb : Below W.heap.size W W2) : St w W2 := ⟨below_step h.b hb⟩
theorem St.n {w W : World} (h : St w W) (n : Nat) : St w (W.drewN n) := h.of (pw_below_drewN (Below.refl _ _) n)
theorem St.d {w W : World} (h : St w W) : St w W.drew := h.of (below_drew1 (Below.refl _ _))
theorem St.a {w W : World} (h : St w W) (o : Obj) : St w (W.alloc o) := h.of (below_alloc (Below.refl _ _) o)
theorem yK {w0 w w1 : World} {g : Nat} {o : Obj} (h : w0.heap[g]? = some o) (hb : Below w.heap.size w w1) (s : St w0 w := by with_reducible repeat (first | exact St.r _ | refine St.n ?_ _ | refine St.d ?_ | refine St.a ?_ _)) : Aside0 (w1.heap[g]? = some o) :=
  ⟨blk_below ((s.out g (Array.getElem?_eq_some_iff.mp h).1).trans h) hb⟩
theorem xK {α : Type} {d : Kd α} {e : Nat} {w0 w w1 : World} {base : Nat} {ok : Nat → Prop} {v : Value} {xs : List α} (h : d.R e w0 base ok v xs) (hb : Below w.heap.size w w1) (s : St w0 w := by with_reducible repeat (first | exact St.r _ | refine St.n ?_ _ | refine St.d ?_ | refine St.a ?_ _)) : Aside0 (d.R e w1 base ok v xs) :=
  ⟨Kd.R_below (Kd.R_step h (fun k _ hk => s.out k hk)) hb⟩
theorem yH {w0 w : World} {g : Nat} {o : Obj} (h : w0.heap[g]? = some o) (s : St w0 w := by with_reducible repeat (first | exact St.r _ | refine St.n ?_ _ | refine St.d ?_ | refine St.a ?_ _)) : w.heap[g]? = some o := (s.out g (Array.getElem?_eq_some_iff.mp h).1).trans h
theorem xH {α : Type} {d : Kd α} {e : Nat} {w0 w : World} {base : Nat} {ok : Nat → Prop} {v : Value} {xs : List α} (h : d.R e w0 base ok v xs) (s : St w0 w := by with_reducible repeat (first | exact St.r _ | refine St.n ?_ _ | refine St.d ?_ | refine St.a ?_ _)) : d.R e w base ok v xs := Kd.R_step h (fun k _ hk => s.out k hk)
theorem rC {α : Type} {d : Kd α} {e : Nat} {w0 w : World} {base : Nat} {ok : Nat → Prop} {A : Option Addr} {n c : Nat} {xs : List α} (h : d.R e w0 base ok (.slice A n c) xs) (s : St w0 w := by with_reducible repeat (first | exact St.r _ | refine St.n ?_ _ | refine St.d ?_ | refine St.a ?_ _)) : d.C w A xs.length xs := (Kd.R_reads' (xH h s)).2.2
theorem cK {α : Type} {d : Kd α} {w w0 W : World} {xs : List α} {A : Option Addr} {n : Nat} (h : d.C w A n xs) (hb : Below w.heap.size w w0) (s : St w0 W := by with_reducible repeat (first | exact St.r _ | refine St.n ?_ _ | refine St.d ?_ | refine St.a ?_ _)) : d.C W A n xs := Kd.C_below (Kd.C_below h hb) s.b
theorem yW {w0 w : World} {g : Nat} {o : Obj} (h : w0.heap[g]? = some o) (s : St w0 w := by with_reducible repeat (first | refine St.n ?_ _ | refine St.d ?_ | refine St.a ?_ _ | exact St.r _)) : w.heap[g]? = some o := (s.out g (Array.getElem?_eq_some_iff.mp h).1).trans h
theorem mA {α : Type} {a b : α} (h : a = b := by (try simp only [List.map_toArray, List.map_cons, List.map_nil]); first | done | rfl | (simp only [List.length_drop, List.length_take]; rfl)) : a = b := h
theorem eW {α : Type} {a b : α} (h : a = b := by first | rfl | (simp [errW_none, errW_some] <;> rfl) | (simp [*, errW_none, errW_some] <;> rfl)) : a = b := h
theorem cS {α : Type} {d : Kd α} {w0 W : World} {xs : List α} {A : Option Addr} {n : Nat} (h : d.C w0 A n xs) (s : St w0 W := by with_reducible repeat (first | exact St.r _ | refine St.n ?_ _ | refine St.d ?_ | refine St.a ?_ _)) : d.C W A n xs := Kd.C_below h s.b
theorem qA {α : Type} (l : List α) (i : Nat) (a : α) : l.toArray.setIfInBounds i a = (l.set i a).toArray := by simp
theorem qB {α : Type} (l : List α) (a b : α) : (a :: l).set 0 b = b :: l := rfl
theorem qC {α : Type} (l : List α) (a b : α) (n : Nat) : (a :: l).set (n + 1) b = a :: l.set n b := rfl
theorem eI {A B : Option Addr} {n m c d : Nat} (h : Value.slice A n c = Value.slice B m d) : B = A ∧ d = c := by injection h with a b c; exact ⟨a.symm, c.symm⟩
abbrev tT : Bool := true
abbrev fF : Bool := false
abbrev oB (A : Option Addr) (n c : Nat) : Option Nat := (Value.slice A n c).ownBlock
theorem yc {w : World} {g : Nat} {t : TypeId} {cs : Array Value} {v : Value} (h : w.heap[g]? = some (.cells cs t (0, 0))) (i : Nat) (e : cs[i]? = some v := by rfl) : w.cell? ⟨g, i, none⟩ = some v := (blk_cell h i).trans e
theorem gS {P : Program} {ops : Array Oper} {Q : Exit → Act → World → Prop} {oi : Oper} {N : Option Tmp} {a : Act} {w : World} {K : Act → World → Prop} {f : FuncId} {fn : Func} {as_ : Array Operand} {ts : Array TypeId} (hf : P.funcs[f]? = some fn) (hname : (fn.name == "runtime.NumGoroutine") = false) (hb : fn.body.isSome = true) (args : Array Value)
    (hw : Region.wanted oi (yielded ops a.tmps) = true) (hN : oi.dst = N) (hop : oi.op = .call { callee := .value (.func f), args := as_, argTypes := ts })
    (h : Calls P f args w fun e w' => ∃ v, e = .returned v ∧ K (a.put N v) w') (hargs : as_.map a.eval = args := by (try simp only [List.map_toArray, List.map_cons, List.map_nil]); first | done | rfl | (simp only [List.length_drop, List.length_take]; rfl)) : if Region.wanted oi (yielded ops a.tmps) = true then Oper.wp P oi a w K Q else K (a.put N undef) w := goes_ hf hname hb args hw hN hop hargs h
theorem nL {w0 w : World} {g g1 : Nat} {o : Obj} (h : w0.heap[g]? = some o) (hg : g1 = w.heap.size) (s : St w0 w := by with_reducible repeat (first | exact St.r _ | refine St.n ?_ _ | refine St.d ?_ | refine St.a ?_ _)) : Aside0 (g ≠ g1) := ⟨by rw [hg]; exact Nat.ne_of_lt (blk_lt (yH h s))⟩
theorem nR {w0 w : World} {g g1 : Nat} {o : Obj} (h : w0.heap[g]? = some o) (hg : g1 = w.heap.size) (s : St w0 w := by with_reducible repeat (first | exact St.r _ | refine St.n ?_ _ | refine St.d ?_ | refine St.a ?_ _)) : Aside0 (g1 ≠ g) := ⟨by rw [hg]; exact Nat.ne_of_gt (blk_lt (yH h s))⟩
structure Sb (n : Nat) (w W : World) : Prop where
  out : ∀ v, n = v.heap.size → Below n v w → Below n v W
theorem Sb.r (n : Nat) (w : World) : Sb n w w := ⟨fun _ _ h => h⟩
theorem Sb.n {n : Nat} {w W : World} (h : Sb n w W) (q : Nat) : Sb n w (W.drewN q) := ⟨fun v e k => by subst e; exact pw_below_drewN (h.out v rfl k) q⟩
theorem Sb.d {n : Nat} {w W : World} (h : Sb n w W) : Sb n w W.drew := ⟨fun v e k => by subst e; exact below_drew1 (h.out v rfl k)⟩
theorem Sb.a {n : Nat} {w W : World} (h : Sb n w W) (o : Obj) : Sb n w (W.alloc o) := ⟨fun v e k => by subst e; exact below_alloc (h.out v rfl k) o⟩
theorem Sb.s {n : Nat} {w W : World} (h : Sb n w W) {g j : Nat} {u : Value} (hg : Aside0 (n ≤ g)) : Sb n w (W.setCell ⟨g, j, none⟩ u) := ⟨fun v e k => by subst e; exact below_set (h.out v rfl k) hg.out⟩
theorem zH {w w0 W : World} (h : Below w.heap.size w w0) (s : Sb w.heap.size w0 W := by with_reducible repeat (first | exact Sb.r _ _ | refine Sb.n ?_ _ | refine Sb.d ?_ | refine Sb.a ?_ _ | refine Sb.s ?_ (by assumption))) : Below w.heap.size w W := s.out w rfl h
theorem x1 {α : Type} {d : Kd α} {e : Nat} {w : World} {base : Nat} {ok : Nat → Prop} {v : Value} {xs : List α} (h : d.R e w base ok v xs) {g t : Nat} {cells : Array Value} (hb : w.heap[g]? = some (.cells cells t (0, 0))) (ht : ∀ q, q ∈ e :: d.E → q ≠ t) (u0 : Value) : d.R e (w.setCell ⟨g, 0, none⟩ u0) base ok v xs := xM (xF (p := ⟨g, 0, none⟩) (xT h hb ht) (fun _ hk => hk.2) u0) (fun _ h_ => h_.1)
theorem x3 {α : Type} {d : Kd α} {e : Nat} {w : World} {base : Nat} {ok : Nat → Prop} {v : Value} {xs : List α} (h : d.R e w base ok v xs) {g t : Nat} {cells : Array Value} (hb : w.heap[g]? = some (.cells cells t (0, 0))) (ht : ∀ q, q ∈ e :: d.E → q ≠ t) (u0 u1 u2 : Value) : d.R e (((w.setCell ⟨g, 0, none⟩ u0).setCell ⟨g, 1, none⟩ u1).setCell ⟨g, 2, none⟩ u2) base ok v xs := xM (xF (p := ⟨g, 2, none⟩) (xF (p := ⟨g, 1, none⟩) (xF (p := ⟨g, 0, none⟩) (xT h hb ht) (fun _ hk => hk.2) u0) (fun _ hk => hk.2) u1) (fun _ hk => hk.2) u2) (fun _ h_ => h_.1)
theorem pP {P : Program} {md : Region.Mode} {ops : Array Oper} {Q : Exit → Act → World → Prop} {S : World → Prop} {ds : List Nat} {T : Bool × List (List Nat × List Nat)} (i N : Nat) {oi : Oper} {v : Value} {fuel : Nat} {l l' : Array Bool} {a a' : Act} {w : World} (HT : Aside0 (rtab md ops = T)) (h : wpAnyLast P md ops Q S ds fuel l' a' w) (hi : ops[i]? = some oi := by rfl) (hN : oi.dst = some N := by rfl) (hl : l.setIfInBounds i true = l' := by simp only [List.setIfInBounds_toArray, List.set_cons_succ, List.set_cons_zero]; rfl) (hc : anyT T l.toList l'.toList i = true := by kernel_rfl) (hQ : ∀ c a w, Q (.panic c) (a.put oi.dst v) w → Q (.panic c) a w := by exact fun _ _ _ h => h) (hy : Yields P ops oi v a := by exact Or.inl ⟨by rfl, by intro w'; go_simp; with_reducible rfl⟩) (ha : a.put (some N) v = a' := by simp only [Act.put, qA, qB, qC, i64_w, i32_w]; rfl) : wpAnyLast P md ops Q S ds (fuel + 1) l a w := pure_ l' hi hN (any_of HT.out hc) hQ hy ha h
theorem pU {P : Program} {md : Region.Mode} {ops : Array Oper} {Q : Exit → Act → World → Prop} {S : World → Prop} {ds : List Nat} {T : Bool × List (List Nat × List Nat)} (i N : Nat) {oi : Oper} {fuel : Nat} {l l' : Array Bool} {a a' : Act} {w : World} (HT : Aside0 (rtab md ops = T)) (h : wpAnyLast P md ops Q S ds fuel l' a' w) (hi : ops[i]? = some oi := by rfl) (hN : oi.dst = some N := by rfl) (hl : l.setIfInBounds i true = l' := by simp only [List.setIfInBounds_toArray, List.set_cons_succ, List.set_cons_zero]; rfl) (hc : anyT T l.toList l'.toList i = true := by kernel_rfl) (hQ : ∀ c a w, Q (.panic c) (a.put oi.dst undef) w → Q (.panic c) a w := by exact fun _ _ _ h => h) (hy : Yields P ops oi undef a := by exact Or.inr ⟨by rfl, rfl⟩) (ha : a.put (some N) undef = a' := by simp only [Act.put, qA, qB, qC, i64_w, i32_w]; rfl) : wpAnyLast P md ops Q S ds (fuel + 1) l a w := pure_ l' hi hN (any_of HT.out hc) hQ hy ha h
theorem tK {P : Program} {md : Region.Mode} {ops : Array Oper} {Q : Exit → Act → World → Prop} {S : World → Prop} {ds : List Nat} {T : Bool × List (List Nat × List Nat)} (i N : Nat) {oi : Oper} {v : Value} {fuel : Nat} {l l' : Array Bool} {a a' : Act} {w : World} (HT : Aside0 (rtab md ops = T)) {W : List Nat} (HW : Aside0 (waitsOk T.2 W = true)) (hS : S w) (h : wpAnyLast P md ops Q S ds fuel l' a' w) (hi : ops[i]? = some oi := by rfl) (hN : oi.dst = some N := by rfl) (hl : l.setIfInBounds i true = l' := by simp only [List.setIfInBounds_toArray, List.set_cons_succ, List.set_cons_zero]; rfl) (hc : takeW T W ds l.toList l'.toList i = true := by kernel_rfl) (hQ : ∀ c a w, Q (.panic c) (a.put oi.dst v) w → Q (.panic c) a w := by exact fun _ _ _ h => h) (hy : YieldsIf P ops S oi v a := by exact Or.inl ⟨by rfl, by (intro w' hS_; (try dsimp only at hS_); go_split_ands; go_simp; with_reducible rfl)⟩) (ha : a.put (some N) v = a' := by simp only [Act.put, qA, qB, qC, i64_w, i32_w]; rfl) : wpAnyLast P md ops Q S ds (fuel + 1) l a w := take_ l' hi hN (take_ofW HT.out HW.out hc) hQ hy hS ha h
theorem nN {P : Program} {md : Region.Mode} {ops : Array Oper} {Q : Exit → Act → World → Prop} {S : World → Prop} {ds : List Nat} (N : Nat) {fuel : Nat} {l : Array Bool} {a a' : Act} {v : Value} {w : World} (h : wpAnyLast P md ops Q S ds fuel l a' w) (ha : a.put (some N) v = a' := by simp only [Act.put, qA, qB, qC, i64_w, i32_w]; rfl) : wpAnyLast P md ops Q S ds fuel l (a.put (some N) v) w := norm_ ha h
theorem y3 {w : World} {g : Nat} {t : TypeId} {a b c : Value} (h : w.heap[g]? = some (.cells #[a, b, c] t (0, 0))) : w.cell? ⟨g, 0, none⟩ = some a ∧ w.cell? ⟨g, 1, none⟩ = some b ∧ w.cell? ⟨g, 2, none⟩ = some c ∧ w.frozen? ⟨g, 0, none⟩ = false ∧ w.frozen? ⟨g, 1, none⟩ = false ∧ w.frozen? ⟨g, 2, none⟩ = false := ⟨(blk_cell h 0).trans rfl, (blk_cell h 1).trans rfl, (blk_cell h 2).trans rfl, blk_frozen h 0, blk_frozen h 1, blk_frozen h 2⟩
theorem y2 {w : World} {g : Nat} {t : TypeId} {a b : Value} (h : w.heap[g]? = some (.cells #[a, b] t (0, 0))) : w.cell? ⟨g, 0, none⟩ = some a ∧ w.cell? ⟨g, 1, none⟩ = some b ∧ w.frozen? ⟨g, 0, none⟩ = false ∧ w.frozen? ⟨g, 1, none⟩ = false := ⟨(blk_cell h 0).trans rfl, (blk_cell h 1).trans rfl, blk_frozen h 0, blk_frozen h 1⟩
theorem gW {w w0 W : World} {g : Nat} (hg : g = W.heap.size) (h : Below w.heap.size w w0) (s : Sb w.heap.size w0 W := by with_reducible repeat (first | exact Sb.r _ _ | refine Sb.n ?_ _ | refine Sb.d ?_ | refine Sb.a ?_ _ | refine Sb.s ?_ (by assumption))) : Aside0 (w.heap.size ≤ g) := ⟨by rw [hg]; exact below_size (s.out w rfl h)⟩
theorem q1 {α : Type} {d : Kd α} {e : Nat} {w0 W w1 : World} {base : Nat} {ok : Nat → Prop} {v : Value} {xs : List α} (h : d.R e w0 base ok v xs) (hb : Below W.heap.size W w1) {g i0 : Nat} {u0 : Value} (hok : ∀ k, ok k → k ≠ g) (s : St (w0.setCell ⟨g, i0, none⟩ u0) W := by with_reducible repeat (first | exact St.r _ | refine St.n ?_ _ | refine St.d ?_ | refine St.a ?_ _)) : Aside0 (d.R e w1 base ok v xs) := ⟨Kd.R_below (Kd.R_step (Kd.R_far h hok u0) (fun k _ hk => s.out k hk)) hb⟩
theorem q2 {α : Type} {d : Kd α} {e : Nat} {w0 W w1 : World} {base : Nat} {ok : Nat → Prop} {v : Value} {xs : List α} (h : d.R e w0 base ok v xs) (hb : Below W.heap.size W w1) {g i0 i1 : Nat} {u0 u1 : Value} (hok : ∀ k, ok k → k ≠ g) (s : St ((w0.setCell ⟨g, i0, none⟩ u0).setCell ⟨g, i1, none⟩ u1) W := by with_reducible repeat (first | exact St.r _ | refine St.n ?_ _ | refine St.d ?_ | refine St.a ?_ _)) : Aside0 (d.R e w1 base ok v xs) := ⟨Kd.R_below (Kd.R_step (Kd.R_far (Kd.R_far h hok u0) hok u1) (fun k _ hk => s.out k hk)) hb⟩
theorem q3 {α : Type} {d : Kd α} {e : Nat} {w0 W w1 : World} {base : Nat} {ok : Nat → Prop} {v : Value} {xs : List α} (h : d.R e w0 base ok v xs) (hb : Below W.heap.size W w1) {g i0 i1 i2 : Nat} {u0 u1 u2 : Value} (hok : ∀ k, ok k → k ≠ g) (s : St (((w0.setCell ⟨g, i0, none⟩ u0).setCell ⟨g, i1, none⟩ u1).setCell ⟨g, i2, none⟩ u2) W := by with_reducible repeat (first | exact St.r _ | refine St.n ?_ _ | refine St.d ?_ | refine St.a ?_ _)) : Aside0 (d.R e w1 base ok v xs) := ⟨Kd.R_below (Kd.R_step (Kd.R_far (Kd.R_far (Kd.R_far h hok u0) hok u1) hok u2) (fun k _ hk => s.out k hk)) hb⟩
theorem eB {α : Type} {d : Kd α} {e : Nat} {w0 W w1 : World} {base : Nat} {ok : Nat → Prop} {v : Value} {xs : List α} (h : d.R e w0 base ok v xs) (hb : Below W.heap.size W w1) {g : Nat} (hg : g = W.heap.size) (s : St w0 W := by with_reducible repeat (first | exact St.r _ | refine St.n ?_ _ | refine St.d ?_ | refine St.a ?_ _)) : Aside0 (d.R e w1 base (fun k => ok k ∧ k ≠ g) v xs) := ⟨Kd.R_below (Kd.R_elderB (Kd.R_step h (fun k _ hk => s.out k hk)) g (Nat.le_of_eq hg.symm)) hb⟩
structure Sg (g : Nat) (w W : World) : Prop where
  out : ∀ {cs : Array Value} {t : TypeId}, w.heap[g]? = some (.cells cs t (0, 0)) → W.heap[g]? = some (.cells cs t (0, 0))
theorem Sg.r (g : Nat) (w : World) : Sg g w w := ⟨fun h => h⟩
theorem Sg.n {g : Nat} {w W : World} (h : Sg g w W) (n : Nat) : Sg g w (W.drewN n) := ⟨fun k => blk_drewN (h.out k) n⟩
theorem Sg.d {g : Nat} {w W : World} (h : Sg g w W) : Sg g w W.drew := ⟨fun k => blk_drew (h.out k)⟩
theorem Sg.a {g : Nat} {w W : World} (h : Sg g w W) (o : Obj) : Sg g w (W.alloc o) := ⟨fun k => blk_alloc (h.out k) o⟩
theorem Sg.s {g : Nat} {w W : World} (h : Sg g w W) {b j : Nat} {u : Value} (hne : Aside0 (g ≠ b)) : Sg g w (W.setCell ⟨b, j, none⟩ u) := ⟨fun k => blk_far (h.out k) hne.out u⟩
theorem yQ {g : Nat} {w0 W w1 : World} {cs : Array Value} {t : TypeId} (h : w0.heap[g]? = some (.cells cs t (0, 0))) (hb : Below W.heap.size W w1) (s : Sg g w0 W := by with_reducible repeat (first | exact Sg.r _ _ | refine Sg.n ?_ _ | refine Sg.d ?_ | refine Sg.a ?_ _ | refine Sg.s ?_ (by assumption))) : Aside0 (w1.heap[g]? = some (.cells cs t (0, 0))) := ⟨blk_below (s.out h) hb⟩
theorem yG {g : Nat} {w0 W : World} {cs : Array Value} {t : TypeId} (h : w0.heap[g]? = some (.cells cs t (0, 0))) (s : Sg g w0 W := by with_reducible repeat (first | exact Sg.r _ _ | refine Sg.n ?_ _ | refine Sg.d ?_ | refine Sg.a ?_ _ | refine Sg.s ?_ (by assumption))) : Aside0 (W.heap[g]? = some (.cells cs t (0, 0))) := ⟨s.out h⟩
theorem bE {P : Program} {ops : Array Oper} {Q : Exit → Act → World → Prop} {rest : List Oper} {o : Oper} {a : Act} {W : World} (N : Tmp) (cs : Array Value) (t : TypeId) (h : ∀ g, g = W.heap.size → ∀ w1, w1.heap[g]? = some (.cells cs t (0, 0)) → Below W.heap.size W w1 → wpList P ops Q rest (a.put o.dst (.pointer (some ⟨g, 0, none⟩))) w1)
    (hrun : (execOp a.eval o).run P W = .ok (.value (.pointer (some ⟨W.heap.size, 0, none⟩))) (W.alloc (.cells cs t (0, 0))) := by first | (go_simp; done) | (go_simp; rfl)) (hgd : o.guard = none := by rfl) (hd : o.dst = some N := by rfl) : wpList P ops Q (o :: rest) a W := box_event hgd hd hrun h
theorem oN {P : Program} {md : Region.Mode} {ops : Array Oper} {Q : Exit → Act → World → Prop} {S : World → Prop} {ds : List Nat} {T : Bool × List (List Nat × List Nat)} (i : Nat) (N : Option Tmp) {oi : Oper} {fuel : Nat} {l l' : Array Bool} {a : Act} {w : World} (HT : Aside0 (rtab md ops = T))
    (h : ∀ K : Act → World → Prop, Shut (∀ a' w', S w' → (S w' → wpAnyLast P md ops Q S ds fuel l' a' w') → K a' w') → if Region.wanted oi (yielded ops a.tmps) = true then Oper.wp P oi a w K Q else K (a.put N undef) w) (hi : ops[i]? = some oi := by rfl) (hN : oi.dst = N := by rfl) (hl : l.setIfInBounds i true = l' := by simp only [List.setIfInBounds_toArray, List.set_cons_succ, List.set_cons_zero]; rfl) (hc : (readyT T.2 l.toList == [i] && l.toList.set i true == l'.toList) = true := by kernel_rfl) (hd : i ∉ ds := by decide) : wpAnyLast P md ops Q S ds (fuel + 1) l a w := one_ l' hi hN (one_of HT.out hc) hd h
end Go.Proofs.Ytbjcioihomeikaa.PFnBuddies
