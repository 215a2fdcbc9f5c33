/- The walks of FnGuarded: Go's calls come to what the Lean functions beside them say; no condition. -/
import Derived.Test.YtjibcpfgnnmfjaaQFnGuardedx0
import Derived.Test.YtjibcpfgnnmfjaaQFnGuardedx4
namespace Go.Proofs.Ytjibcpfgnnmfjaa.PFnGuarded
open Go.RowKit Go.Proofs.YtjibcpfgnnmfjaaW.PrintWords Go.Proofs.YtjibcpfgnnmfjaaW.PrintLast Go.Proofs.YtjibcpfgnnmfjaaW.PrintMore
attribute [local go_sem] max2_int min2_int max_two min_two max_three min_three max_four min_four   -- for this text's walks alone
set_option linter.unusedVariables false
set_option linter.unusedSimpArgs false
set_option maxRecDepth 100000

/-! ### impl_MendText: function 53 (by hand) -/
-- needs impl_decoded
section
open Go.Shelf
attribute [local go_sem] Oper.semAt_some
/-- the iterator's two boxes -/
def chK (Bs Bn : Nat) (W W' : World) : Prop := W'.heap[Bs]? = W.heap[Bs]? ∧ W'.heap[Bn]? = W.heap[Bn]?
theorem chK_t {Bs Bn : Nat} {A B C : World} (h : chK Bs Bn A B) (k : chK Bs Bn B C) : chK Bs Bn A C := ⟨k.1.trans h.1, k.2.trans h.2⟩
theorem chK_b {Bs Bn : Nat} {w : World} (hs : Bs < w.heap.size) (hn : Bn < w.heap.size) (W : World) (l : Nat) (o o' : Obj) (hl : w.heap.size ≤ l) (_ : W.heap[l]? = some o) (_ : o.isCells = false) (_ : o.isWalk = false) : chK Bs Bn W (W.putObj l o') :=
  ⟨World.putObj_heap_other (by omega), World.putObj_heap_other (by omega)⟩
set_option maxRecDepth 100000 in
set_option maxHeartbeats 1000000 in
theorem chunk_in (F : Fence) (n : Nat) (h5 : F.fn 88) (hro : F.round = none) (a : Option Addr) (len cap : Nat) (w : World) :
    CallsIn F n Try.prog 88 #[.slice a len cap, .int .i64 2] w fun e w' => e = .returned (.func (.func 104) #[] #[.pointer (some ⟨w.heap.size, 0, none⟩), .pointer (some ⟨w.heap.size + 1, 0, none⟩)]) ∧ w' = (w.alloc (.cells #[.slice a len cap] 22)).alloc (.cells #[.int .i64 2] 3) := by
  refine callsIn_of_wp Try.func88 rfl h5 ?_ hro
  simp only [Try.ntmps88, List.size_toArray, List.length_cons, List.length_nil, Nat.reduceAdd, Nat.reduceSub, Array.replicate_succ, Array.replicate_zero, List.push_toArray, List.append_toArray, List.nil_append, List.cons_append]
  gi_wp2
  go_ret
  exact ⟨rfl, rfl⟩
def chEnc (b : Nat) {N : Nat} (j : Fin N) : Array Value := #[.slice (some ⟨b, 2 * j.1, none⟩) 2 2]
theorem fin_take (N k : Nat) (h : k < N) : (List.finRange N).take (k + 1) = (List.finRange N).take k ++ [⟨k, h⟩] := by
  rw [List.take_succ_eq_append_getElem (by simpa using h)]; simp
theorem fin_all (N : Nat) : (List.finRange N).take N = List.finRange N := List.take_of_length_le (by simp)
set_option maxRecDepth 100000 in
set_option maxHeartbeats 2000000 in
theorem chunk1_in (F : Fence) (n : Nat) (h7 : F.fn 104) (hro : F.round = none) (hn : 1 ≤ n) (l Bs Bn b N len cap : Nat) (hN : N ≤ 60) (hlen : len = 2 * N) (hcap : len ≤ cap) (J Jx : List (Fin N) → World → Prop) (hJd : ∀ pre W, J pre W → J pre W.drew)
    (hY : ∀ pre x W, J pre W → pre.length < N → YieldAt F (n - 1) Try.prog l (chEnc b x) W fun e W' =>
      (e = .returned (.bool true) ∧ J (pre ++ [x]) W' ∧ chK Bs Bn W W') ∨ (e = .returned (.bool false) ∧ Jx (pre ++ [x]) W'))
    (W : World) (hBs : W.heap[Bs]? = some (.cells #[.slice (some ⟨b, 0, none⟩) len cap] 22 (0, 0))) (hBn : W.heap[Bn]? = some (.cells #[.int .i64 2] 3 (0, 0))) (h0 : J [] W) :
    CallsIn F n Try.prog 104 #[.func (.yield l) #[] #[], .pointer (some ⟨Bs, 0, none⟩), .pointer (some ⟨Bn, 0, none⟩)] W fun e W' => (∃ v, e = .returned v) ∧
      ((∃ ys, ys = List.finRange N ∧ J ys W') ∨ (∃ pre, (∃ k, k ≤ N ∧ pre = (List.finRange N).take k) ∧ Jx pre W')) := by
  have HLN := Aside0.mk hlen
  have HCP := Aside0.mk hcap
  clear hlen hcap
  refine callsIn_of_wp Try.func104 rfl h7 ?_ hro
  simp only [Try.ntmps104, List.size_toArray, List.length_cons, List.length_nil, Nat.reduceAdd, Nat.reduceSub, Array.replicate_succ, Array.replicate_zero, List.push_toArray, List.append_toArray, List.nil_append, List.cons_append]
  gi_wp2
  gi_loopw [4] (fun i wr => ∃ k m : Nat, k ≤ N ∧ Aside0 (m = 2 * k) ∧ i = .int .i64 (m : Int) ∧ J ((List.finRange N).take k) wr ∧ chK Bs Bn W wr)
    (fun i _ => len - (intOf i).toNat)
  case atStart => exact ⟨0, 0, Nat.zero_le _, ⟨rfl⟩, rfl, h0, rfl, rfl⟩
  case round =>
    obtain ⟨k, m, hk, HM, rfl, hJs, hnx⟩ := hrel
    have hs1 : wr.cell? ⟨Bs, 0, none⟩ = some (.slice (some ⟨b, 0, none⟩) len cap) := (blk_cell (hnx.1.trans hBs) 0).trans rfl
    have hn1 : wr.cell? ⟨Bn, 0, none⟩ = some (.int .i64 2) := (blk_cell (hnx.2.trans hBn) 0).trans rfl
    by_cases hlt : k < N
    · have hx := HM.out
      have hy0 := HLN.out
      have hz := HCP.out
      have p1 : decide ((m : Int) < (len : Int)) = true := decide_eq_true (by omega)
      have p2 : 0 ≤ (m : Int) := by omega
      have p3 : (m : Int) ≤ (len : Int) := by omega
      have p4 : (m : Int) ≤ (cap : Int) := by omega
      have p5 : (len : Int) ≤ (cap : Int) := by omega
      have p6 : (cap = m) = False := eq_false (by omega)
      have p8 : (((len - m : Nat) : Int) < 2) = False := eq_false (by omega)
      have q1 : (m < len) = True := eq_true (by omega)
      have p9 : IntKind.i64.wrap ((m : Int) + 2) = ((m + 2 : Nat) : Int) := by rw [i64_w]; unfold wrap64; omega
      have p10 : 0 ≤ ((m + 2 : Nat) : Int) := by omega
      have p11 : ((m + 2 : Nat) : Int) ≤ (cap : Int) := by omega
      have p12 : (m : Int) ≤ ((m + 2 : Nat) : Int) := by omega
      clear hx hy0 hz
      obtain ⟨fn, tmps, assign, body, hy, hR⟩ := hY _ ⟨k, hlt⟩ wr.drew (hJd _ _ hJs) (by rw [List.length_take, List.length_finRange]; omega)
      dsimp only [chEnc] at hy
      rw [← HM.out] at hy
      gi_wp2
      gi_region
      all_goals
        gi_wp2
        refine hR.mono ?_
        rintro e W3 (⟨rfl, hJ3, hk3⟩ | ⟨rfl, hJx3⟩)
        · have hn3 : W3.cell? ⟨Bn, 0, none⟩ = some (.int .i64 2) := (blk_cell (hk3.2.trans (hnx.2.trans hBn)) 0).trans rfl
          gi_wp2
          go_roundw
          case rel => exact ⟨k + 1, m + 2, by omega, ⟨by have := HM.out; omega⟩, by first | rfl | rw [p9], by rw [fin_take N k hlt]; exact hJ3, chK_t hnx hk3⟩
          case measure => have := HM.out; have := HLN.out; simp [intOf]; omega
        · gi_wp2
          refine bodyPost_ret (results_none rfl _ _ _) rfl ?_
          exact ⟨⟨_, rfl⟩, .inr ⟨_, ⟨k + 1, by omega, (fin_take N k hlt).symm⟩, hJx3⟩⟩
    · obtain rfl : k = N := by omega
      have q1 : (m < len) = False := eq_false (by have := HM.out; have := HLN.out; omega)
      have p1 : decide ((m : Int) < (len : Int)) = false := decide_eq_false (by have := HM.out; have := HLN.out; omega)
      gi_wp2
      go_end0
      exact ⟨⟨_, rfl⟩, .inl ⟨_, rfl, by rw [fin_all] at hJs; exact hJs⟩⟩
theorem chunk_stops (Bs Bn b N len cap : Nat) (hN : N ≤ 60) (hlen : len = 2 * N) (hcap : len ≤ cap) (w : World) (hs : Bs < w.heap.size) (hb : Bn < w.heap.size) (hBs : w.heap[Bs]? = some (.cells #[.slice (some ⟨b, 0, none⟩) len cap] 22 (0, 0))) (hBn : w.heap[Bn]? = some (.cells #[.int .i64 2] 3 (0, 0))) :
    SeqStopsK Fence.wide 2 Try.prog 104 #[.pointer (some ⟨Bs, 0, none⟩), .pointer (some ⟨Bn, 0, none⟩)] (chEnc b (N := N)) (chK Bs Bn) (fun ys => ys = List.finRange N) (fun pre => ∃ k, k ≤ N ∧ pre = (List.finRange N).take k) N w := fun l J Jx W hW hJ _ hY h0 =>
  chunk1_in Fence.wide 2 trivial rfl (by omega) l Bs Bn b N len cap hN hlen hcap J Jx (fun pre V hv => hJ pre V V.drew none hv ⟨rfl, rfl, rfl, Nat.le_refl _, fun _ _ _ => rfl⟩ (fun r e => by cases e)) hY W ((hW.block Bs hs).trans hBs) ((hW.block Bn hb).trans hBn) h0
/-- a region without a defer statement in a round -/
def noDefer (ops : Array Oper) : Bool := ops.toList.all fun o => match o.op with | .defer _ => false | _ => true
theorem noDefer_spec {ops : Array Oper} (h : noDefer ops = true) {i : Nat} {o : Oper} (ho : ops[i]? = some o) : ∀ c, o.op ≠ .defer c := by
  intro c hc
  unfold noDefer at h
  rw [List.all_eq_true] at h
  have := h o (by rw [Array.mem_toList_iff]; exact Array.mem_of_getElem? ho)
  rw [hc] at this
  cases this
theorem opIn_round {F : Fence} (hro : F.round = none) (l : Nat) {n : Nat} {P : Program} {o : Oper} {a : Act} {w : World} {K : Act → World → Prop} {Q : Exit → Act → World → Prop} (hd : ∀ c, o.op ≠ .defer c) (h : o.wpIn F n P a w K Q) : o.wpIn (F.inRound l) n P a w K Q := by
  refine ⟨h.1, ?_⟩
  have h2 := h.2
  rw [Oper.semAt_eq _ _ _ hd] at h2 ⊢
  generalize (execOp a.eval o).run P w = r at h2 ⊢
  cases r with
  | ok x w' => cases x <;> exact h2
  | _ => exact h2
theorem wpAnyIn_round {F : Fence} (hro : F.round = none) (l : Nat) {n : Nat} {P : Program} {md : Region.Mode} {ops : Array Oper} {Q : Exit → Act → World → Prop} (hd : noDefer ops = true) : ∀ (fuel : Nat) (listed : Array Bool) (a : Act) (w : World), wpAnyIn F n P md ops Q fuel listed a w → wpAnyIn (F.inRound l) n P md ops Q fuel listed a w
  | 0, _, _, _, h => h
  | fuel + 1, listed, a, w, h => by
    refine ⟨h.1, fun i hi => ?_⟩
    have h2 := h.2 i hi
    unfold wpOpIn at h2 ⊢
    cases ho : ops[i]? with
    | none => rw [ho] at h2; exact wpAnyIn_round hro l hd fuel _ _ _ h2
    | some o =>
      rw [ho] at h2
      simp only at h2 ⊢
      split at h2
      · rename_i hw
        rw [if_pos hw]
        exact Oper.wpIn_mono (wpAnyIn_round hro l hd fuel _) (opIn_round hro l (noDefer_spec hd ho) h2)
      · rename_i hw
        rw [if_neg hw]
        exact ⟨h2.1, wpAnyIn_round hro l hd fuel _ _ _ h2.2⟩
-- SPLIT
theorem box_far {W : World} {B : Nat} {t : TypeId} {v : Value} (h : Boxed W B t v) {p : Addr} (hp : B ≠ p.block) (u : Value) : Boxed (W.setCell p u) B t v := blk_far h hp u
theorem box_below {W W' : World} {B : Nat} {t : TypeId} {v : Value} (h : Boxed W B t v) (hb : Below W.heap.size W W') : Boxed W' B t v := blk_below h hb
/-- what each pair tells: none where its second byte is too great -/
def decAt (k : Nat) (s : ByteArray) (j : Nat) : Option (Option (Int × Int)) := if bt s ((2 * j + 1 : Nat) : Int) ≥ 32 then some none else (impl_decoded.f k (bt s ((2 * j : Nat) : Int) + 256 * bt s ((2 * j + 1 : Nat) : Int))).bind fun p => some (some p)
def decs (k : Nat) (s : ByteArray) : Nat → Option (List (Option (Int × Int)))
  | 0 => some []
  | n + 1 => (decs k s n).bind fun L => (decAt k s n).bind fun p => some (L ++ [p])
def mstep (o : List Int) (c : Int) : Option (Int × Int) → Option (List Int × Int)
  | none => none
  | some p => if p.2 = 2 then none else some (o ++ [p.1 % 256], if p.2 = 1 then wrap64 (c + 1) else c)
def mfold : List (Option (Int × Int)) → List Int → Int → Option (List Int × Int)
  | [], o, c => some (o, c)
  | p :: l, o, c => (mstep o c p).bind fun q => mfold l q.1 q.2
theorem mfold_snoc (p : Option (Int × Int)) : ∀ (l : List (Option (Int × Int))) (o : List Int) (c : Int), mfold (l ++ [p]) o c = (mfold l o c).bind fun q => mstep q.1 q.2 p
  | [], o, c => by
    show (mstep o c p).bind (fun q => some (q.1, q.2)) = mstep o c p
    cases mstep o c p <;> rfl
  | q :: l, o, c => by
    show (mstep o c q).bind _ = ((mstep o c q).bind _).bind _
    cases mstep o c q with
    | none => rfl
    | some r => exact mfold_snoc p l r.1 r.2
theorem mfold_len : ∀ (l : List (Option (Int × Int))) (o : List Int) (c : Int) (q : List Int × Int), mfold l o c = some q → q.1.length = o.length + l.length
  | [], o, c, q, h => by obtain rfl := Option.some.inj h; rfl
  | p :: l, o, c, q, h => by
    obtain ⟨r, h1, h2⟩ := Option.bind_eq_some_iff.mp h
    have := mfold_len l r.1 r.2 q h2
    cases p with
    | none => cases h1
    | some p =>
      simp only [mstep] at h1
      split at h1
      · cases h1
      · obtain rfl := Option.some.inj h1
        rw [this, List.length_append]; simp; omega
theorem mfold_none (l : List (Option (Int × Int))) (o : List Int) (c : Int) : ∀ (m : List (Option (Int × Int))), mfold l o c = none → mfold (l ++ m) o c = none := by
  induction l generalizing o c with
  | nil => intro m h; cases h
  | cons p l ih =>
    intro m h
    show (mstep o c p).bind _ = none
    change (mstep o c p).bind _ = none at h
    cases hs : mstep o c p with
    | none => rfl
    | some q => rw [hs] at h; exact ih q.1 q.2 m h
theorem decs_tells {k : Nat} {s : ByteArray} : ∀ {n : Nat} {L : List (Option (Int × Int))}, decs k s n = some L → L.length = n ∧ ∀ j, j < n → decAt k s j = some (L.getD j none) := by
  intro n
  induction n with
  | zero => intro L h; obtain rfl := Option.some.inj h; exact ⟨rfl, fun j hj => by omega⟩
  | succ n ih =>
    intro L h
    obtain ⟨M, h1, h2⟩ := Option.bind_eq_some_iff.mp h
    obtain ⟨p, h3, h4⟩ := Option.bind_eq_some_iff.mp h2
    obtain rfl := Option.some.inj h4
    obtain ⟨e1, e2⟩ := ih h1
    refine ⟨by rw [List.length_append]; simp; omega, fun j hj => ?_⟩
    by_cases hjn : j < n
    · rw [e2 j hjn]; simp [List.getD_eq_getElem?_getD, List.getElem?_append_left (show j < M.length by omega)]
    · obtain rfl : j = n := by omega
      rw [h3]; simp [List.getD_eq_getElem?_getD, e1]
theorem decs_mono (s : ByteArray) (n k : Nat) : LeO (decs k s n) (decs (k + 1) s n) := by
  induction n with
  | zero => exact LeO.refl _
  | succ n ih =>
    refine LeO.bind ih fun L => LeO.bind ?_ fun _ => LeO.refl _
    unfold decAt
    exact LeO.ite (LeO.refl _) (LeO.bind (impl_decoded.mono _ k) fun _ => LeO.refl _)
/-- the pairs in their order are all of the row -/
theorem fin_row (L : List (Option (Int × Int))) : (List.finRange L.length).map (fun j => L.getD j.1 none) = L := by
  apply List.ext_getElem (by simp)
  intro i h1 h2
  simp [List.getD_eq_getElem?_getD, h2]
def mendR : Option (List Int × Int) → ByteArray × Int × Bool
  | some (o, c) => (strOfNums o, c, true)
  | none => ((⟨#[]⟩ : ByteArray), 0, false)
/-- what lies beside the row that grows -/
def mB (w : World) (s : ByteArray) (cap Bs : Nat) (c : Int) (W : World) : Prop :=
  Boxed W (w.heap.size + 1 + 1 + 1 + 1 + 1) 3 (.int .i64 c) ∧ Boxed W w.heap.size 9 (.string ⟨#[]⟩) ∧ Boxed W (w.heap.size + 1) 3 (.int .i64 0) ∧ Boxed W (w.heap.size + 1 + 1) 4 (.bool false)
    ∧ Boxed W Bs 22 (.slice (some ⟨w.heap.size + 1 + 1 + 1 + 1 + 1 + 1, 0, none⟩) s.size cap) ∧ Boxed W (Bs + 1) 3 (.int .i64 2) ∧ Go.Proofs.Ytjibcpfgnnmfjaa.Bytes.RowB W 5 (w.heap.size + 1 + 1 + 1 + 1 + 1 + 1) (bytesOf s) ∧ Below w.heap.size w W
/-- between two rounds -/
def mI (w : World) (s : ByteArray) (cap Bs : Nat) (L : List (Option (Int × Int))) {N : Nat} (pre : List (Fin N)) (W : World) : Prop :=
  ∃ o c v, mfold (pre.map fun j => L.getD j.1 none) [] 0 = some (o, c) ∧ Boxed W (w.heap.size + 1 + 1 + 1 + 1) 22 v ∧ W.ownsRow w.heap.size 5 1 v o.length (nums .u8 o) ∧ mB w s cap Bs c W
/-- a round has left -/
def mX (w : World) (L : List (Option (Int × Int))) (c : Code) {N : Nat} (pre : List (Fin N)) (W : World) : Prop :=
  (c = .ret ∧ mfold (pre.map fun j => L.getD j.1 none) [] 0 = none ∧ Boxed W w.heap.size 9 (.string ⟨#[]⟩) ∧ Boxed W (w.heap.size + 1) 3 (.int .i64 0) ∧ Boxed W (w.heap.size + 1 + 1) 4 (.bool false)) ∧ Below w.heap.size w W
theorem al_at (W : World) (o : Obj) (i : Nat) (h : i = W.heap.size) : (W.alloc o).heap[i]? = some o := by subst h; exact World.alloc_heap_new W o
theorem blk_own {W W' : World} {row : Option Nat} {B : Nat} {c : Array Value} {t : TypeId} {m : Nat × Nat} (h : W.heap[B]? = some (.cells c t m)) (hg : W.grownBy W' row) (hr : ∀ r, row = some r → ∃ o : Obj, W.heap[r]? = some o ∧ o.isCells = false) : W'.heap[B]? = some (.cells c t m) := by
  refine (hg.block B (Array.getElem?_eq_some_iff.mp h).1 fun e => ?_).trans h
  obtain ⟨o, ho, hc⟩ := hr B e.symm
  rw [h] at ho; cases ho; cases hc
theorem row_own {W W' : World} {row : Option Nat} {e g : Nat} {ys : List Int} (h : Go.Proofs.Ytjibcpfgnnmfjaa.Bytes.RowB W e g ys) (hg : W.grownBy W' row) (hr : ∀ r, row = some r → ∃ o : Obj, W.heap[r]? = some o ∧ o.isCells = false) : Go.Proofs.Ytjibcpfgnnmfjaa.Bytes.RowB W' e g ys := by
  obtain ⟨cur, h1, h2⟩ := h
  exact ⟨cur, blk_own h1 hg hr, h2⟩
theorem fail_out (w : World) (L : List (Option (Int × Int))) {N : Nat} (pre : List (Fin N)) (W0 W : World) (hk : KeepsOthers W0 W) (B0 : Boxed W w.heap.size 9 (.string ⟨#[]⟩)) (B1 : Boxed W (w.heap.size + 1) 3 (.int .i64 0)) (B2 : Boxed W (w.heap.size + 1 + 1) 4 (.bool false)) (HB : Below w.heap.size w W)
    (hn : mfold (pre.map fun j => L.getD j.1 none) [] 0 = none) :
    KeepsOthers W0 (((W.setCell ⟨w.heap.size, 0, none⟩ (.string ⟨#[]⟩)).setCell ⟨w.heap.size + 1, 0, none⟩ (.int .i64 0)).setCell ⟨w.heap.size + 1 + 1, 0, none⟩ (.bool false)) ∧
    mX w L .ret pre (((W.setCell ⟨w.heap.size, 0, none⟩ (.string ⟨#[]⟩)).setCell ⟨w.heap.size + 1, 0, none⟩ (.int .i64 0)).setCell ⟨w.heap.size + 1 + 1, 0, none⟩ (.bool false)) := by
  refine ⟨((hk.trans (KeepsOthers.setCell _ _ _)).trans (KeepsOthers.setCell _ _ _)).trans (KeepsOthers.setCell _ _ _), ⟨rfl, hn, ?_, ?_, ?_⟩, ?_⟩
  · exact box_far (box_far (B0.set _) (by show w.heap.size ≠ w.heap.size + 1; omega) _) (by show w.heap.size ≠ w.heap.size + 1 + 1; omega) _
  · exact box_far ((box_far B1 (by show w.heap.size + 1 ≠ w.heap.size; omega) _).set _) (by show w.heap.size + 1 ≠ w.heap.size + 1 + 1; omega) _
  · exact (box_far (box_far B2 (by show w.heap.size + 1 + 1 ≠ w.heap.size; omega) _) (by show w.heap.size + 1 + 1 ≠ w.heap.size + 1; omega) _).set _
  · exact ((HB.setCell (p := ⟨w.heap.size, 0, none⟩) (Nat.le_refl _) _).setCell (p := ⟨w.heap.size + 1, 0, none⟩) (by show w.heap.size ≤ w.heap.size + 1; omega) _).setCell (p := ⟨w.heap.size + 1 + 1, 0, none⟩) (by show w.heap.size ≤ w.heap.size + 1 + 1; omega) _
theorem below_others {W W' : World} (h : Below W.heap.size W W') : KeepsOthers W W' := ⟨h.size, fun k o hk _ => (h.block k (Array.getElem?_eq_some_iff.mp hk).1).trans hk⟩
theorem outs_set (w W : World) (u0 u1 u2 : Value) {v0 v1 v2 : Value} (B0 : Boxed W w.heap.size 9 v0) (B1 : Boxed W (w.heap.size + 1) 3 v1) (B2 : Boxed W (w.heap.size + 1 + 1) 4 v2) (HB : Below w.heap.size w W) :
    let Wf := (((W.setCell ⟨w.heap.size, 0, none⟩ u0).setCell ⟨w.heap.size + 1, 0, none⟩ u1).setCell ⟨w.heap.size + 1 + 1, 0, none⟩ u2).drew
    Boxed Wf w.heap.size 9 u0 ∧ Boxed Wf (w.heap.size + 1) 3 u1 ∧ Boxed Wf (w.heap.size + 1 + 1) 4 u2 ∧ KeepsOthers W Wf ∧ Below w.heap.size w Wf := by
  refine ⟨?_, ?_, ?_, (((KeepsOthers.setCell _ _ _).trans (KeepsOthers.setCell _ _ _)).trans (KeepsOthers.setCell _ _ _)).trans (KeepsOthers.drew _), ?_⟩
  · exact box_below (box_far (box_far (B0.set _) (by show w.heap.size ≠ w.heap.size + 1; omega) _) (by show w.heap.size ≠ w.heap.size + 1 + 1; omega) _) (below_drew1 (Below.refl _ _))
  · exact box_below (box_far ((box_far B1 (by show w.heap.size + 1 ≠ w.heap.size; omega) _).set _) (by show w.heap.size + 1 ≠ w.heap.size + 1 + 1; omega) _) (below_drew1 (Below.refl _ _))
  · exact box_below ((box_far (box_far B2 (by show w.heap.size + 1 + 1 ≠ w.heap.size; omega) _) (by show w.heap.size + 1 + 1 ≠ w.heap.size + 1; omega) _).set _) (below_drew1 (Below.refl _ _))
  · exact below_drew1 (((HB.setCell (p := ⟨w.heap.size, 0, none⟩) (Nat.le_refl _) _).setCell (p := ⟨w.heap.size + 1, 0, none⟩) (by show w.heap.size ≤ w.heap.size + 1; omega) _).setCell (p := ⟨w.heap.size + 1 + 1, 0, none⟩) (by show w.heap.size ≤ w.heap.size + 1 + 1; omega) _)
theorem mB_own {w : World} {s : ByteArray} {cap Bs : Nat} {c : Int} {W W' : World} {row : Option Nat} (h : mB w s cap Bs c W) (hg : W.grownBy W' row) (hr : ∀ r, row = some r → w.heap.size ≤ r ∧ ∃ o : Obj, W.heap[r]? = some o ∧ o.isCells = false) : mB w s cap Bs c W' := by
  obtain ⟨h5, b0, b1, b2, bs, bn, rb, hB⟩ := h
  have hr2 := fun r e => (hr r e).2
  exact ⟨blk_own h5 hg hr2, blk_own b0 hg hr2, blk_own b1 hg hr2, blk_own b2 hg hr2, blk_own bs hg hr2, blk_own bn hg hr2, row_own rb hg hr2, hB.grown hg hB.size (fun k e => (hr k e).1)⟩
theorem mI_own (w : World) (s : ByteArray) (cap Bs : Nat) (L : List (Option (Int × Int))) {N : Nat} (B : Nat) (hB : w.heap.size ≤ B) : OwnFrom B (mI w s cap Bs L (N := N)) := by
  intro pre W W' row h hg hr
  obtain ⟨o, c, v, hf, h4, hv, hb⟩ := h
  have hr2 := fun r e => (hr r e).2
  refine ⟨o, c, v, hf, blk_own h4 hg hr2, hv.kept hg ?_, mB_own hb hg (fun r e => ⟨Nat.le_trans hB (hr r e).1, hr2 r e⟩)⟩
  rcases hv.2 with ⟨rfl, _⟩ | ⟨g, cap, cur, rfl, _, hgb, _⟩
  · exact .inl rfl
  · refine .inr fun e' => ?_
    obtain ⟨o, ho, hc⟩ := hr2 g (by simpa [Value.ownBlock] using e'.symm)
    rw [hgb] at ho; cases ho; cases hc
theorem rowB_ne {W : World} {g base k : Nat} {ys : List Int} {v : Value} {xs : List Value} (h : Go.Proofs.Ytjibcpfgnnmfjaa.Bytes.RowB W 5 g ys) (hr : W.ownsRow base 5 1 v k xs) : some g ≠ v.ownBlock := by
  obtain ⟨cur, h1, _⟩ := h
  rcases hr.2 with ⟨rfl, _⟩ | ⟨g', cap, cur', rfl, _, hgb, _⟩
  · simp [Value.ownBlock]
  · intro e'
    obtain rfl : g = g' := by simpa [Value.ownBlock] using e'
    rw [h1] at hgb
    simp at hgb
theorem rowB_kept {W W' : World} {row : Option Nat} {g : Nat} {ys : List Int} (h : Go.Proofs.Ytjibcpfgnnmfjaa.Bytes.RowB W 5 g ys) (hg : W.grownBy W' row) (hne : some g ≠ row) : Go.Proofs.Ytjibcpfgnnmfjaa.Bytes.RowB W' 5 g ys := by
  obtain ⟨cur, h1, h2⟩ := h
  exact ⟨cur, (hg.block g (Array.getElem?_eq_some_iff.mp h1).1 hne).trans h1, h2⟩
theorem mB_below {w : World} {s : ByteArray} {cap Bs : Nat} {c : Int} {W W' : World} (h : mB w s cap Bs c W) (hb : Below W.heap.size W W') : mB w s cap Bs c W' := by
  obtain ⟨h5, b0, b1, b2, bs, bn, rb, hB⟩ := h
  exact ⟨box_below h5 hb, box_below b0 hb, box_below b1 hb, box_below b2 hb, box_below bs hb, box_below bn hb, rb.below hb, below_step hB hb⟩
/-- the count is turned -/
theorem mB_count {w : World} {s : ByteArray} {cap Bs : Nat} {c : Int} {W : World} (c' : Int) (hBs : w.heap.size + 1 + 1 + 1 + 1 + 1 < Bs) (h : mB w s cap Bs c W) : mB w s cap Bs c' (W.setCell ⟨w.heap.size + 1 + 1 + 1 + 1 + 1, 0, none⟩ (.int .i64 c')) := by
  obtain ⟨h5, b0, b1, b2, bs, bn, rb, hB⟩ := h
  obtain ⟨cur, r1, r2⟩ := rb
  refine ⟨h5.set _, box_far b0 ?_ _, box_far b1 ?_ _, box_far b2 ?_ _, box_far bs ?_ _, box_far bn ?_ _, ⟨cur, (Below.heap_setCell _ _ _ _ ?_).trans r1, r2⟩, hB.setCell (p := ⟨w.heap.size + 1 + 1 + 1 + 1 + 1, 0, none⟩) (by show w.heap.size ≤ w.heap.size + 1 + 1 + 1 + 1 + 1; omega) _⟩ <;> (simp only; omega)
/-- a number has been appended -/
theorem good_out {w : World} {s : ByteArray} {cap Bs : Nat} {L : List (Option (Int × Int))} {N : Nat} (pre : List (Fin N)) {W0 W w1 : World} {tmp : Obj} {v v' : Value} {o o' : List Int} {c : Int} {k : Nat} (hBs : w.heap.size + 1 + 1 + 1 + 1 + 1 < Bs) (hk : KeepsOthers W0 W) (hm0 : mB w s cap Bs c W)
    (b0s : Boxed W0 Bs 22 (.slice (some ⟨w.heap.size + 1 + 1 + 1 + 1 + 1 + 1, 0, none⟩) s.size cap)) (b0n : Boxed W0 (Bs + 1) 3 (.int .i64 2))
    (h4 : Boxed W (w.heap.size + 1 + 1 + 1 + 1) 22 v) (hrow : W.ownsRow w.heap.size 5 1 v k (nums .u8 o)) (hown' : w1.ownsRow w.heap.size 5 1 v' o'.length (nums .u8 o')) (hgrow : (W.alloc tmp).grownBy w1 v.ownBlock)
    (hf : mfold (pre.map fun j => L.getD j.1 none) [] 0 = some (o', c)) :
    KeepsOthers W0 (w1.setCell ⟨w.heap.size + 1 + 1 + 1 + 1, 0, none⟩ v') ∧ chK Bs (Bs + 1) W0 (w1.setCell ⟨w.heap.size + 1 + 1 + 1 + 1, 0, none⟩ v') ∧ mI w s cap Bs L pre (w1.setCell ⟨w.heap.size + 1 + 1 + 1 + 1, 0, none⟩ v') := by
  obtain ⟨h5, b0, b1, b2, bs, bn, rb, hB⟩ := hm0
  obtain ⟨a1, a2, a3, a4, a5⟩ := h4.appended (by decide) hrow hB.size (by omega) hown' hgrow
  have led : ∀ {B : Nat} {t : TypeId} {u : Value}, Boxed W B t u → t ≠ 5 → B ≠ w.heap.size + 1 + 1 + 1 + 1 → Boxed (w1.setCell ⟨w.heap.size + 1 + 1 + 1 + 1, 0, none⟩ v') B t u := fun h ht hn => box_far ((h.alloc tmp).kept hgrow (h.not_row ht hrow)) hn _
  have bs' := led bs (by decide) (by omega)
  have bn' := led bn (by decide) (by omega)
  refine ⟨hk.trans a4, ⟨bs'.trans b0s.symm, bn'.trans b0n.symm⟩, o', c, v', hf, a2, a3, led h5 (by decide) (by omega), led b0 (by decide) (by omega), led b1 (by decide) (by omega), led b2 (by decide) (by omega), bs', bn', ?_, hB.trans a5⟩
  have rk := rowB_kept (rb.below (below_alloc (Below.refl _ _) tmp)) hgrow (rowB_ne rb hrow)
  obtain ⟨cur, r1, r2⟩ := rk
  exact ⟨cur, (Below.heap_setCell _ _ _ _ (by simp only; omega)).trans r1, r2⟩
theorem mX_own (w : World) (L : List (Option (Int × Int))) (c : Code) {N : Nat} (B : Nat) (hB : w.heap.size ≤ B) : OwnFrom B (mX w L c (N := N)) :=
  OwnFrom.and (Own.from (fun pre W W' row h hg hr => ⟨h.1, h.2.1, blk_own h.2.2.1 hg hr, blk_own h.2.2.2.1 hg hr, blk_own h.2.2.2.2 hg hr⟩) B) (ownFrom_below (Nat.le_refl _) hB)
def impl_MendText.f (k : Nat) (a0 : ByteArray) : Option (ByteArray × Int × Bool) :=
  if a0.size % 2 = 0 ∧ a0.size ≤ 120 then (decs k a0 (a0.size / 2)).bind fun L => some (mendR (mfold L [] 0)) else some ((⟨#[]⟩ : ByteArray), 0, false)
theorem impl_MendText.mono : ∀ a0 k, LeO (impl_MendText.f k a0) (impl_MendText.f (k + 1) a0) := by
  intro a0 k
  unfold impl_MendText.f
  exact LeO.ite (LeO.bind (decs_mono a0 _ k) fun _ => LeO.refl _) (LeO.refl _)
set_option maxHeartbeats 400000 in
set_option maxRecDepth 100000 in
theorem impl_MendText.calls (k : Nat) (a0 : ByteArray) (r1 : ByteArray) (r2 : Int) (r3 : Bool) (w : World) (h : impl_MendText.f k a0 = some (r1, r2, r3)) :
    Calls Try.prog 53 #[.string a0] w fun e w' => e = .returned (.tuple #[.string r1, .int .i64 r2, .bool r3]) ∧ Below w.heap.size w w' := by
  unfold impl_MendText.f at h
  by_cases hl : a0.size % 2 = 0 ∧ a0.size ≤ 120
  · rw [if_pos hl] at h
    obtain ⟨L, hL, h⟩ := Option.bind_eq_some_iff.mp h
    obtain ⟨N, hN⟩ : ∃ N, a0.size = 2 * N := ⟨a0.size / 2, by omega⟩
    rw [show a0.size / 2 = N by omega] at hL
    have HN := Aside0.mk hN
    have HS := Aside0.mk hl.2
    obtain ⟨hLl, hD⟩ := decs_tells hL
    have d1 : Int.tmod (a0.size : Int) 2 = 0 := by rw [Int.tmod_eq_emod_of_nonneg (by omega)]; omega
    have d2 : decide ((a0.size : Int) > 120) = false := decide_eq_false (by omega)
    have d3 : (120 < (a0.size : Int)) = False := eq_false (by omega)
    clear hl hN
    have HR : Aside0 (mendR (mfold L [] 0) = (r1, r2, r3)) := ⟨Option.some.inj h⟩
    clear h
    have hcv : ∀ W, (convert 9 22 (.string a0)).run Try.prog W = .ok (.slice (some ⟨W.heap.size, 0, none⟩) a0.size (grownCap W a0.size 0 5)) (Lib.bytesWorld W 5 a0) := fun W => Lib.run_convert_string_bytes W 9 22 5 a0 Try.underlying9 Try.underlying22 Try.underlying5
    refine (callsIn_wide (n := 3)).1 ?_
    refine callsIn_of_wp_marks Try.func53 rfl trivial ?_ rfl
    simp only [Try.ntmps53, List.size_toArray, List.length_cons, List.length_nil, Nat.reduceAdd, Nat.reduceSub, Array.replicate_succ, Array.replicate_zero, List.push_toArray, List.append_toArray, List.nil_append, List.cons_append]
    gi_wp2_with (refine ⟨trivial, ?_⟩; gi_at_call 88; refine (chunk_in Fence.wide _ trivial rfl _ _ _ _).mono ?_; rintro e w' ⟨rfl, rfl⟩)
    obtain ⟨WA, hWA⟩ : ∃ WA, (((((w.alloc (.cells #[.string ⟨#[]⟩] 9)).alloc (.cells #[.int .i64 0] 3)).alloc (.cells #[.bool false] 4)).alloc (.cells #[] 5)).alloc (.cells #[.slice (some ⟨w.heap.size + 1 + 1 + 1, 0, none⟩) 0 0] 22)).alloc (.cells #[.int .i64 0] 3) = WA := ⟨_, rfl⟩
    have sA : WA.heap.size = w.heap.size + 1 + 1 + 1 + 1 + 1 + 1 := by rw [← hWA]; simp
    have bA0 : WA.heap[w.heap.size]? = some (.cells #[.string ⟨#[]⟩] 9 (0, 0)) := by rw [← hWA]; exact blk_alloc (blk_alloc (blk_alloc (blk_alloc (blk_alloc (al_at _ _ _ (by simp)) _) _) _) _) _
    have bA1 : WA.heap[w.heap.size + 1]? = some (.cells #[.int .i64 0] 3 (0, 0)) := by rw [← hWA]; exact blk_alloc (blk_alloc (blk_alloc (blk_alloc (al_at _ _ _ (by simp)) _) _) _) _
    have bA2 : WA.heap[w.heap.size + 1 + 1]? = some (.cells #[.bool false] 4 (0, 0)) := by rw [← hWA]; exact blk_alloc (blk_alloc (blk_alloc (al_at _ _ _ (by simp)) _) _) _
    have bA3 : WA.heap[w.heap.size + 1 + 1 + 1]? = some (.cells #[] 5 (0, 0)) := by rw [← hWA]; exact blk_alloc (blk_alloc (al_at _ _ _ (by simp)) _) _
    have bA4 : WA.heap[w.heap.size + 1 + 1 + 1 + 1]? = some (.cells #[.slice (some ⟨w.heap.size + 1 + 1 + 1, 0, none⟩) 0 0] 22 (0, 0)) := by rw [← hWA]; exact blk_alloc (al_at _ _ _ (by simp)) _
    have bA5 : WA.heap[w.heap.size + 1 + 1 + 1 + 1 + 1]? = some (.cells #[.int .i64 0] 3 (0, 0)) := by rw [← hWA]; exact al_at _ _ _ (by simp)
    have lA : Below w.heap.size w WA := by rw [← hWA]; exact below_alloc (below_alloc (below_alloc (below_alloc (below_alloc (below_alloc (Below.refl _ _) _) _) _) _) _) _
    rw [hWA]
    clear hWA
    obtain ⟨cap, hcap⟩ : ∃ cap, grownCap WA a0.size 0 5 = cap := ⟨_, rfl⟩
    have HC := Aside0.mk (show a0.size ≤ cap by rw [← hcap]; exact (by have := grownCap_ge WA a0.size 0 5; omega))
    rw [hcap]
    clear hcap
    obtain ⟨WB, hWB⟩ : ∃ WB, Lib.bytesWorld WA 5 a0 = WB := ⟨_, rfl⟩
    have sB : WB.heap.size = w.heap.size + 1 + 1 + 1 + 1 + 1 + 1 + 1 := by rw [← hWB, Lib.bytesWorld_size, sA]
    have rB : Go.Proofs.Ytjibcpfgnnmfjaa.Bytes.RowB WB 5 (w.heap.size + 1 + 1 + 1 + 1 + 1 + 1) (bytesOf a0) := by rw [← hWB, ← sA]; exact Go.Proofs.Ytjibcpfgnnmfjaa.Bytes.bytesWorld_row WA 5 a0
    have lB : Below WA.heap.size WA WB := by rw [← hWB]; exact Go.Proofs.Ytjibcpfgnnmfjaa.Bytes.bytesWorld_below WA 5 a0
    have lB2 : Below w.heap.size w WB := below_step lA lB
    replace bA0 := blk_below bA0 lB
    replace bA1 := blk_below bA1 lB
    replace bA2 := blk_below bA2 lB
    replace bA3 := blk_below bA3 lB
    replace bA4 := blk_below bA4 lB
    replace bA5 := blk_below bA5 lB
    rw [hWB]
    clear hWB lA lB sA
    clear WA
    obtain ⟨WC, hWC⟩ : ∃ WC, (WB.alloc (.cells #[.slice (some ⟨w.heap.size + 1 + 1 + 1 + 1 + 1 + 1, 0, none⟩) a0.size cap] 22)).alloc (.cells #[.int .i64 2] 3) = WC := ⟨_, rfl⟩
    have sC : WC.heap.size = w.heap.size + 1 + 1 + 1 + 1 + 1 + 1 + 1 + 1 + 1 := by rw [← hWC]; simp; omega
    have lC : Below WB.heap.size WB WC := by rw [← hWC]; exact below_alloc (below_alloc (Below.refl _ _) _) _
    have bS : WC.heap[WB.heap.size]? = some (.cells #[.slice (some ⟨w.heap.size + 1 + 1 + 1 + 1 + 1 + 1, 0, none⟩) a0.size cap] 22 (0, 0)) := by rw [← hWC]; exact blk_alloc (al_at _ _ _ rfl) _
    have bN : WC.heap[WB.heap.size + 1]? = some (.cells #[.int .i64 2] 3 (0, 0)) := by rw [← hWC]; exact al_at _ _ _ (by simp)
    replace bA0 := blk_below bA0 lC
    replace bA1 := blk_below bA1 lC
    replace bA2 := blk_below bA2 lC
    replace bA3 := blk_below bA3 lC
    replace bA4 := blk_below bA4 lC
    replace bA5 := blk_below bA5 lC
    replace rB := rB.below lC
    have lC2 : Below w.heap.size w WC := below_step lB2 lC
    rw [hWC]
    clear hWC lC lB2
    have hBs : WB.heap.size = w.heap.size + 1 + 1 + 1 + 1 + 1 + 1 + 1 := sB
    obtain ⟨Bs, hB2⟩ : ∃ Bs, WB.heap.size = Bs := ⟨_, rfl⟩
    rw [hB2] at bS bN sB ⊢
    clear hBs hB2
    clear WB
    have SB := Aside0.mk sB
    have SC := Aside0.mk sC
    clear sB sC
    gi_wp2
    have hI0 : mI w a0 cap Bs L (N := N) [] WC := by
      refine ⟨[], 0, _, rfl, bA4, ?_, bA5, bA0, bA1, bA2, bS, bN, rB, lC2⟩
      exact ⟨rfl, .inr ⟨_, 0, #[], rfl, by omega, bA3, by decide, by decide, rfl, rfl⟩⟩
    refine wpIn_rangeFunc_ownF (n := 3) rfl (by omega) (gf := 104) (lb := #[.pointer (some ⟨Bs, 0, none⟩), .pointer (some ⟨Bs + 1, 0, none⟩)]) rfl trivial (enters_of Try.func104 (by kernel_rfl) rfl)
      (chunk_stops Bs (Bs + 1) (w.heap.size + 1 + 1 + 1 + 1 + 1 + 1) N a0.size cap (by have := HN.out; have := HS.out; omega) HN.out HC.out WC (by have := SB.out; have := SC.out; omega) (by have := SB.out; have := SC.out; omega) bS bN) chK_t (chK_b (by have := SB.out; have := SC.out; omega) (by have := SB.out; have := SC.out; omega)) (Below.refl _ _) (fun _ => rfl)
      (mI w a0 cap Bs L) (fun c => mX w L c) (mI_own w a0 cap Bs L WC.heap.size (by have := SC.out; omega)) (fun c => mX_own w L c WC.heap.size (by have := SC.out; omega)) hI0
      (fun x => { tmps := List.toArray ((Value.string a0 : Value) :: undef :: .pointer (some ⟨w.heap.size, 0, none⟩) :: .pointer (some ⟨w.heap.size + 1, 0, none⟩) :: .pointer (some ⟨w.heap.size + 1 + 1, 0, none⟩) :: .pointer (some ⟨w.heap.size + 1 + 1 + 1 + 1, 0, none⟩) :: .pointer (some ⟨w.heap.size + 1 + 1 + 1 + 1 + 1, 0, none⟩) :: .slice (some ⟨w.heap.size + 1 + 1 + 1 + 1 + 1 + 1, 2 * x.1, none⟩) 2 2 :: undef :: undef :: .string a0 :: .int .i64 (a0.size : Int) :: .int .i64 0 :: .bool false :: .bool false :: .string a0 :: .int .i64 (a0.size : Int) :: .bool false :: .bool false :: .slice (some ⟨w.heap.size + 1 + 1 + 1, 0, none⟩) 0 0 :: .string a0 :: .slice (some ⟨w.heap.size + 1 + 1 + 1 + 1 + 1 + 1, 0, none⟩) a0.size cap :: .func (.func 104) #[] #[.pointer (some ⟨Bs, 0, none⟩), .pointer (some ⟨Bs + 1, 0, none⟩)] :: .slice (some ⟨w.heap.size + 1 + 1 + 1 + 1 + 1 + 1, 2 * x.1, none⟩) 2 2 :: undef :: undef :: undef :: undef :: undef :: undef :: undef :: undef :: undef :: undef :: undef :: undef :: undef :: undef :: undef :: undef :: undef :: undef :: undef :: undef :: undef :: undef :: undef :: undef :: undef :: undef :: undef :: undef :: undef :: undef :: undef :: undef :: undef :: []), defers := [] }) ?assign ?body ?done ?stop
    case assign =>
      intro l x W K hK
      unfold chEnc
      gi_wp2
      exact hK
    case body =>
      clear bA0 bA1 bA2 bA3 bA4 bA5 rB bS bN hI0 lC2 hcv
      rintro l pre x W ⟨o, c, v, hf, h4, hv, hm0⟩ hpl
      have HLEN := Aside0.mk (show o.length < 60 by have h_ := mfold_len _ _ _ _ hf; rw [List.length_map] at h_; have := HN.out; have := HS.out; simp at h_; omega)
      clear hpl
      have hm1 := hm0
      obtain ⟨h5, b0, b1, b2, bs, bn, rb, hB⟩ := hm1
      have hx2 : 2 * x.1 + 1 < a0.size := by have := HN.out; have := x.2; omega
      have e0 := rb.cell (2 * x.1) (by rw [bytesOf_length]; omega)
      have e1 := rb.cell (2 * x.1 + 1) (by rw [bytesOf_length]; omega)
      have g0 : (bytesOf a0).getD (2 * x.1) 0 = bt a0 ((2 * x.1 : Nat) : Int) := by rw [← rd_bytesOf]; rfl
      have g1 : (bytesOf a0).getD (2 * x.1 + 1) 0 = bt a0 ((2 * x.1 + 1 : Nat) : Int) := by rw [← rd_bytesOf]; rfl
      rw [g0] at e0
      rw [g1] at e1
      have r0 := bt_range a0 ((2 * x.1 : Nat) : Int)
      have r1 := bt_range a0 ((2 * x.1 + 1 : Nat) : Int)
      have hd := hD x.1 x.2
      unfold decAt at hd
      have hsn : mfold ((pre ++ [x]).map fun j => L.getD j.1 none) [] 0 = mstep o c (L.getD x.1 none) := by
        rw [List.map_append, List.map_cons, List.map_nil, mfold_snoc, hf]; rfl
      generalize L.getD x.1 none = p at hd hsn
      generalize bt a0 ((2 * x.1 : Nat) : Int) = v0 at e0 r0 hd
      generalize bt a0 ((2 * x.1 + 1 : Nat) : Int) = v1 at e1 r1 hd
      clear g0 g1
      obtain ⟨m, hm⟩ : ∃ m, m = 2 * x.1 := ⟨_, rfl⟩
      rw [← hm] at e0 e1 hx2 ⊢
      have HM := Aside0.mk hm
      have HSN := Aside0.mk hsn
      have HF := Aside0.mk hf
      have HV := Aside0.mk hv
      have HB := Aside0.mk hB
      have RB := Aside0.mk rb
      have c0 := b0.cell
      have c1 := b1.cell
      have c2 := b2.cell
      have c4 := h4.cell
      have c5 := h5.cell
      have z0 := b0.frozen
      have z1 := b1.frozen
      have z2 := b2.frozen
      have z4 := h4.frozen
      have z5 := h5.frozen
      have B0 := Aside0.mk b0
      have B1 := Aside0.mk b1
      have B2 := Aside0.mk b2
      have B4 := Aside0.mk h4
      have B5 := Aside0.mk h5
      have MB := Aside0.mk hm0
      have BSS := Aside0.mk bs
      have BNN := Aside0.mk bn
      clear hm hsn hf hv hB rb b0 b1 b2 h4 h5 hx2 hm0 bs bn
      by_cases h32 : v1 ≥ 32
      · rw [if_pos h32] at hd
        obtain rfl := Option.some.inj hd
        clear hd
        have q1 : decide (v1 ≥ 32) = true := decide_eq_true h32
        have q2 : (32 ≤ v1) = True := eq_true h32
        clear h32 r0 r1
        gi_wp2
        exact fail_out w L (pre ++ [x]) W W (KeepsOthers.refl _) B0.out B1.out B2.out HB.out HSN.out
      · rw [if_neg h32] at hd
        obtain ⟨⟨n, md⟩, hdec, hd⟩ := Option.bind_eq_some_iff.mp hd
        obtain rfl := Option.some.inj hd
        have HDEC := Aside0.mk hdec
        clear hdec hd
        have q1 : decide (v1 ≥ 32) = false := decide_eq_false h32
        have q2 : (32 ≤ v1) = False := eq_false h32
        have y0 : IntKind.i64.wrap v0 = v0 := by rw [i64_w]; unfold wrap64; omega
        have y1 : IntKind.i64.wrap v1 = v1 := by rw [i64_w]; unfold wrap64; omega
        have y2 : IntKind.i64.wrap (256 * v1) = 256 * v1 := by rw [i64_w]; unfold wrap64; omega
        have y3 : IntKind.i64.wrap (v0 + 256 * v1) = v0 + 256 * v1 := by rw [i64_w]; unfold wrap64; omega
        have hmx : Try.prog.follows .mixedOrders = true := by kernel_rfl
        clear h32 r0 r1
        gi_wp2
        refine wpIn_region_any (by kernel_rfl) ?_
        (try (change wpAnyIn _ _ _ _ _ _ _ _ _ (World.drew _)))
        refine wpAnyIn_round rfl l (by kernel_rfl) _ _ _ _ ?_
        refine wpAnyIn_take (i := 0) (v := ?v1) rfl rfl (by kernel_rfl) (by kernel_rfl) (by kernel_rfl) (fun _ _ _ h => h) ⟨Or.inl ⟨by rfl, ?hy1⟩, fun _ => rfl⟩ ?rest1
        case hy1 => (intro w_; go_simp; (try with_reducible rfl))
        refine wpAnyIn_take (i := 1) (v := ?v2) rfl rfl (by kernel_rfl) (by kernel_rfl) (by kernel_rfl) (fun _ _ _ h => h) ⟨Or.inl ⟨by rfl, ?hy2⟩, fun _ => rfl⟩ ?rest2
        case hy2 => (intro w_; go_simp; (try with_reducible rfl))
        refine wpAnyIn_take (i := 4) (v := ?v3) rfl rfl (by kernel_rfl) (by kernel_rfl) (by kernel_rfl) (fun _ _ _ h => h) ⟨Or.inl ⟨by rfl, ?hy3⟩, fun _ => rfl⟩ ?rest3
        case hy3 => (intro w_; go_simp; (try with_reducible rfl))
        refine wpAnyIn_take (i := 5) (v := ?v4) rfl rfl (by kernel_rfl) (by kernel_rfl) (by kernel_rfl) (fun _ _ _ h => h) ⟨Or.inl ⟨by rfl, ?hy4⟩, fun _ => rfl⟩ ?rest4
        case hy4 => (intro w_; go_simp; (try with_reducible rfl))
        refine wpAnyIn_ready (rs := [2, 6]) (by kernel_rfl) (by simp) ?_
        refine AllReadyIn.cons rfl (fun K hK => ?_) (AllReadyIn.cons rfl (fun K hK => ?_) AllReadyIn.nil)
        · go_simp
          refine hK _ _ ?_
          clear hK K
          refine wpAnyIn_take (i := 3) (v := ?v5) rfl rfl (by kernel_rfl) (by kernel_rfl) (by kernel_rfl) (fun _ _ _ h => h) ⟨Or.inl ⟨by rfl, ?hy5⟩, fun _ => rfl⟩ ?rest5
          case hy5 => (intro w_; go_simp; (try with_reducible rfl))
          refine wpAnyIn_ready (rs := [6]) (by kernel_rfl) (by simp) ?_
          refine AllReadyIn.cons rfl (fun K hK => ?_) AllReadyIn.nil
          go_simp
          refine hK _ _ ?_
          clear hK K
          refine wpAnyIn_take (i := 7) (v := ?v6) rfl rfl (by kernel_rfl) (by kernel_rfl) (by kernel_rfl) (fun _ _ _ h => h) ⟨Or.inl ⟨by rfl, ?hy6⟩, fun _ => rfl⟩ ?rest6
          case hy6 => (intro w_; go_simp; (try with_reducible rfl))
          refine wpAnyIn_take (i := 8) (v := ?v7) rfl rfl (by kernel_rfl) (by kernel_rfl) (by kernel_rfl) (fun _ _ _ h => h) ⟨Or.inl ⟨by rfl, ?hy7⟩, fun _ => rfl⟩ ?rest7
          case hy7 => (intro w_; go_simp; (try with_reducible rfl))
          refine wpAnyIn_take (i := 9) (v := ?v8) rfl rfl (by kernel_rfl) (by kernel_rfl) (by kernel_rfl) (fun _ _ _ h => h) ⟨Or.inl ⟨by rfl, ?hy8⟩, fun _ => rfl⟩ ?rest8
          case hy8 => (intro w_; go_simp; (try with_reducible rfl))
          refine wpAnyIn_ready (rs := [10]) (by kernel_rfl) (by simp) ?_
          refine AllReadyIn.cons rfl (fun K hK => ?_) AllReadyIn.nil
          go_simp
          gi_wp2_with (refine ⟨trivial, ?_⟩; gi_at_call 80; with_reducible refine (callsIn_wide.2 (impl_decoded.calls k _ n md _ HDEC.out)).mono ?_; rintro e w2 ⟨rfl, hb2⟩)
          refine wpAnyIn_take (i := 11) (v := ?v9) rfl rfl (by kernel_rfl) (by kernel_rfl) (by kernel_rfl) (fun _ _ _ h => h) ⟨Or.inl ⟨by rfl, ?hy9⟩, fun _ => rfl⟩ ?rest9
          case hy9 => (intro w_; go_simp; (try with_reducible rfl))
          refine wpAnyIn_take (i := 12) (v := ?v10) rfl rfl (by kernel_rfl) (by kernel_rfl) (by kernel_rfl) (fun _ _ _ h => h) ⟨Or.inl ⟨by rfl, ?hy10⟩, fun _ => rfl⟩ ?rest10
          case hy10 => (intro w_; go_simp; (try with_reducible rfl))
          refine wpAnyIn_take (i := 13) (v := ?v11) rfl rfl (by kernel_rfl) (by kernel_rfl) (by kernel_rfl) (fun _ _ _ h => h) ⟨Or.inl ⟨by rfl, ?hy11⟩, fun _ => rfl⟩ ?rest11
          case hy11 => (intro w_; go_simp; (try with_reducible rfl))
          refine wpAnyIn_take (i := 14) (v := ?v12) rfl rfl (by kernel_rfl) (by kernel_rfl) (by kernel_rfl) (fun _ _ _ h => h) ⟨Or.inl ⟨by rfl, ?hy12⟩, fun _ => rfl⟩ ?rest12
          case hy12 => (intro w_; go_simp; (try with_reducible rfl))
          refine wpAnyIn_take (i := 15) (v := ?v13) rfl rfl (by kernel_rfl) (by kernel_rfl) (by kernel_rfl) (fun _ _ _ h => h) ⟨Or.inl ⟨by rfl, ?hy13⟩, fun _ => rfl⟩ ?rest13
          case hy13 => (intro w_; go_simp; (try with_reducible rfl))
          refine wpAnyIn_done (by kernel_rfl) ?_ _
          have hb3 : Below W.heap.size W w2 := (below_drew1 (Below.refl W.heap.size W)).trans hb2
          clear hb2
          have KO := Aside0.mk (below_others hb3)
          have MB2 := Aside0.mk (mB_below MB.out hb3)
          have H4 := Aside0.mk (box_below B4.out hb3)
          have HR2 := Aside0.mk (pw_own_below HV.out hb3)
          obtain ⟨h5, b0, b1, b2, bs, bn, rb, hB⟩ := MB2.out
          have D5 := Aside0.mk h5
          have D0 := Aside0.mk b0
          have D1 := Aside0.mk b1
          have D2 := Aside0.mk b2
          have DB := Aside0.mk hB
          clear hb3 h5 b0 b1 b2 bs bn rb hB c0 c1 c2 c4 c5 z0 z1 z2 z4 z5 e0 e1
          by_cases hmd : md = 2
          · subst hmd
            have c0 := D0.out.cell
            have c1 := D1.out.cell
            have c2 := D2.out.cell
            have z0 := D0.out.frozen
            have z1 := D1.out.frozen
            have z2 := D2.out.frozen
            gi_wp2
            exact fail_out w L (pre ++ [x]) W w2 KO.out D0.out D1.out D2.out DB.out (by rw [HSN.out]; rfl)
          · have q3 : (md == 2) = false := by simpa using hmd
            have q4 : (md = 2) = False := eq_false hmd
            have y5 : IntKind.u8.wrap n = n % 256 := by rw [IntKind.wrap_u8]
            obtain ⟨i0, hi, hz0, hz1, hz2⟩ := info_parts (show (Try.prog.info? 5).map (fun i => (i.zero, i.size, i.bytes)) = some (some (.int .u8 0), 1, 1) by kernel_rfl)
            have c4 := H4.out.cell
            have c5 := D5.out.cell
            have z4 := H4.out.frozen
            have z5 := D5.out.frozen
            have SZ0 := Aside0.mk DB.out.size
            by_cases h1 : md = 1
            · subst h1
              clear hmd
              have y4 : IntKind.i64.wrap (c + 1) = wrap64 (c + 1) := i64_w _
              have H4c := Aside0.mk (box_far H4.out (p := ⟨w.heap.size + 1 + 1 + 1 + 1 + 1, 0, none⟩) (by simp only; omega) (.int .i64 (wrap64 (c + 1))))
              have HR3 := Aside0.mk (HR2.out.kept (grownBy_setCell' w2 (w.heap.size + 1 + 1 + 1 + 1 + 1) (.int .i64 (wrap64 (c + 1)))) (.inr (D5.out.not_row (by decide) HR2.out).symm))
              have MB3 := Aside0.mk (mB_count (wrap64 (c + 1)) (by have := SB.out; omega) MB2.out)
              have SZ1 := Aside0.mk (show w.heap.size ≤ (w2.setCell ⟨w.heap.size + 1 + 1 + 1 + 1 + 1, 0, none⟩ (.int .i64 (wrap64 (c + 1)))).heap.size from MB3.out.2.2.2.2.2.2.2.size)
              have HSZ : Aside0 ((w2.setCell ⟨w.heap.size + 1 + 1 + 1 + 1 + 1, 0, none⟩ (.int .i64 (wrap64 (c + 1)))).heap.size = w2.heap.size) := ⟨by simp⟩
              gi_wp2_with (gi_at_builtin; refine wpListIn_append_own _ rfl _ _ 22 rfl w.heap.size 5 i0 (.int .u8 0) 1 1 Try.underlying22 hi hz0 hz1 hz2 rfl (by decide) _ _ _ rfl (World.ownsRow.alloc HR3.out _) ⟨w2.heap.size, 0, none⟩ 1 1 [.int .u8 (n % 256)] rfl rfl (fun j u hj => by have h_ := cell_one_new (w2.setCell ⟨w.heap.size + 1 + 1 + 1 + 1 + 1, 0, none⟩ (.int .i64 (wrap64 (c + 1)))) (.int .u8 (n % 256)) 5 j u hj; rw [HSZ.out] at h_; exact h_) (by simp [Value.oneCell']) (by have := HLEN.out; unfold maxLen; omega) (by have := HLEN.out; omega) (by have := SZ0.out; simp; omega) ?_; intro v' w1 hown' hgrow _; obtain ⟨g', cap', rfl⟩ := ownsRow_succ hown'; have hv1 : Boxed w1 (w.heap.size + 1 + 1 + 1 + 1) 22 v := ((H4c.out).alloc _).kept hgrow ((H4c.out).not_row (by decide) HR3.out); have hc1 := hv1.cell; have hf1 := hv1.frozen; have HG := Aside0.mk hgrow; have HO := Aside0.mk hown'; clear hgrow hown' hv1)
              exact good_out (pre ++ [x]) (o' := o ++ [n % 256]) (by have := SB.out; omega) (KO.out.trans (KeepsOthers.setCell _ _ _)) MB3.out BSS.out BNN.out H4c.out HR3.out (by have h_ := HO.out; rw [List.length_append]; simpa [nums] using h_) HG.out (by rw [HSN.out]; rfl)
            · have q5 : (md == 1) = false := by simpa using h1
              have q6 : (md = 1) = False := eq_false h1
              have HN1 := Aside0.mk (show mstep o c (some (n, md)) = some (o ++ [n % 256], c) by simp only [mstep]; rw [if_neg hmd, if_neg h1])
              clear hmd h1
              gi_wp2_with (gi_at_builtin; refine wpListIn_append_own _ rfl _ _ 22 rfl w.heap.size 5 i0 (.int .u8 0) 1 1 Try.underlying22 hi hz0 hz1 hz2 rfl (by decide) _ _ _ rfl (World.ownsRow.alloc HR2.out _) ⟨w2.heap.size, 0, none⟩ 1 1 [.int .u8 (n % 256)] rfl rfl (cell_one_new _ _ _) (by simp [Value.oneCell']) (by have := HLEN.out; unfold maxLen; omega) (by have := HLEN.out; omega) (by have := SZ0.out; simp; omega) ?_; intro v' w1 hown' hgrow _; obtain ⟨g', cap', rfl⟩ := ownsRow_succ hown'; have hv1 : Boxed w1 (w.heap.size + 1 + 1 + 1 + 1) 22 v := ((H4.out).alloc _).kept hgrow ((H4.out).not_row (by decide) HR2.out); have hc1 := hv1.cell; have hf1 := hv1.frozen; have HG := Aside0.mk hgrow; have HO := Aside0.mk hown'; clear hgrow hown' hv1)
              exact good_out (pre ++ [x]) (o' := o ++ [n % 256]) (by have := SB.out; omega) KO.out MB2.out BSS.out BNN.out H4.out HR2.out (by have h_ := HO.out; rw [List.length_append]; simpa [nums] using h_) HG.out (by rw [HSN.out, HN1.out])
        · go_simp
          refine hK _ _ ?_
          clear hK K
          refine wpAnyIn_take (i := 7) (v := ?v14) rfl rfl (by kernel_rfl) (by kernel_rfl) (by kernel_rfl) (fun _ _ _ h => h) ⟨Or.inl ⟨by rfl, ?hy14⟩, fun _ => rfl⟩ ?rest14
          case hy14 => (intro w_; go_simp; (try with_reducible rfl))
          refine wpAnyIn_take (i := 8) (v := ?v15) rfl rfl (by kernel_rfl) (by kernel_rfl) (by kernel_rfl) (fun _ _ _ h => h) ⟨Or.inl ⟨by rfl, ?hy15⟩, fun _ => rfl⟩ ?rest15
          case hy15 => (intro w_; go_simp; (try with_reducible rfl))
          refine wpAnyIn_ready (rs := [2]) (by kernel_rfl) (by simp) ?_
          refine AllReadyIn.cons rfl (fun K hK => ?_) AllReadyIn.nil
          go_simp
          refine hK _ _ ?_
          clear hK K
          refine wpAnyIn_take (i := 3) (v := ?v16) rfl rfl (by kernel_rfl) (by kernel_rfl) (by kernel_rfl) (fun _ _ _ h => h) ⟨Or.inl ⟨by rfl, ?hy16⟩, fun _ => rfl⟩ ?rest16
          case hy16 => (intro w_; go_simp; (try with_reducible rfl))
          refine wpAnyIn_take (i := 9) (v := ?v17) rfl rfl (by kernel_rfl) (by kernel_rfl) (by kernel_rfl) (fun _ _ _ h => h) ⟨Or.inl ⟨by rfl, ?hy17⟩, fun _ => rfl⟩ ?rest17
          case hy17 => (intro w_; go_simp; (try with_reducible rfl))
          refine wpAnyIn_ready (rs := [10]) (by kernel_rfl) (by simp) ?_
          refine AllReadyIn.cons rfl (fun K hK => ?_) AllReadyIn.nil
          go_simp
          gi_wp2_with (refine ⟨trivial, ?_⟩; gi_at_call 80; with_reducible refine (callsIn_wide.2 (impl_decoded.calls k _ n md _ HDEC.out)).mono ?_; rintro e w2 ⟨rfl, hb2⟩)
          refine wpAnyIn_take (i := 11) (v := ?v18) rfl rfl (by kernel_rfl) (by kernel_rfl) (by kernel_rfl) (fun _ _ _ h => h) ⟨Or.inl ⟨by rfl, ?hy18⟩, fun _ => rfl⟩ ?rest18
          case hy18 => (intro w_; go_simp; (try with_reducible rfl))
          refine wpAnyIn_take (i := 12) (v := ?v19) rfl rfl (by kernel_rfl) (by kernel_rfl) (by kernel_rfl) (fun _ _ _ h => h) ⟨Or.inl ⟨by rfl, ?hy19⟩, fun _ => rfl⟩ ?rest19
          case hy19 => (intro w_; go_simp; (try with_reducible rfl))
          refine wpAnyIn_take (i := 13) (v := ?v20) rfl rfl (by kernel_rfl) (by kernel_rfl) (by kernel_rfl) (fun _ _ _ h => h) ⟨Or.inl ⟨by rfl, ?hy20⟩, fun _ => rfl⟩ ?rest20
          case hy20 => (intro w_; go_simp; (try with_reducible rfl))
          refine wpAnyIn_take (i := 14) (v := ?v21) rfl rfl (by kernel_rfl) (by kernel_rfl) (by kernel_rfl) (fun _ _ _ h => h) ⟨Or.inl ⟨by rfl, ?hy21⟩, fun _ => rfl⟩ ?rest21
          case hy21 => (intro w_; go_simp; (try with_reducible rfl))
          refine wpAnyIn_take (i := 15) (v := ?v22) rfl rfl (by kernel_rfl) (by kernel_rfl) (by kernel_rfl) (fun _ _ _ h => h) ⟨Or.inl ⟨by rfl, ?hy22⟩, fun _ => rfl⟩ ?rest22
          case hy22 => (intro w_; go_simp; (try with_reducible rfl))
          refine wpAnyIn_done (by kernel_rfl) ?_ _
          have hb3 : Below W.heap.size W w2 := (below_drew1 (Below.refl W.heap.size W)).trans hb2
          clear hb2
          have KO := Aside0.mk (below_others hb3)
          have MB2 := Aside0.mk (mB_below MB.out hb3)
          have H4 := Aside0.mk (box_below B4.out hb3)
          have HR2 := Aside0.mk (pw_own_below HV.out hb3)
          obtain ⟨h5, b0, b1, b2, bs, bn, rb, hB⟩ := MB2.out
          have D5 := Aside0.mk h5
          have D0 := Aside0.mk b0
          have D1 := Aside0.mk b1
          have D2 := Aside0.mk b2
          have DB := Aside0.mk hB
          clear hb3 h5 b0 b1 b2 bs bn rb hB c0 c1 c2 c4 c5 z0 z1 z2 z4 z5 e0 e1
          by_cases hmd : md = 2
          · subst hmd
            have c0 := D0.out.cell
            have c1 := D1.out.cell
            have c2 := D2.out.cell
            have z0 := D0.out.frozen
            have z1 := D1.out.frozen
            have z2 := D2.out.frozen
            gi_wp2
            exact fail_out w L (pre ++ [x]) W w2 KO.out D0.out D1.out D2.out DB.out (by rw [HSN.out]; rfl)
          · have q3 : (md == 2) = false := by simpa using hmd
            have q4 : (md = 2) = False := eq_false hmd
            have y5 : IntKind.u8.wrap n = n % 256 := by rw [IntKind.wrap_u8]
            obtain ⟨i0, hi, hz0, hz1, hz2⟩ := info_parts (show (Try.prog.info? 5).map (fun i => (i.zero, i.size, i.bytes)) = some (some (.int .u8 0), 1, 1) by kernel_rfl)
            have c4 := H4.out.cell
            have c5 := D5.out.cell
            have z4 := H4.out.frozen
            have z5 := D5.out.frozen
            have SZ0 := Aside0.mk DB.out.size
            by_cases h1 : md = 1
            · subst h1
              clear hmd
              have y4 : IntKind.i64.wrap (c + 1) = wrap64 (c + 1) := i64_w _
              have H4c := Aside0.mk (box_far H4.out (p := ⟨w.heap.size + 1 + 1 + 1 + 1 + 1, 0, none⟩) (by simp only; omega) (.int .i64 (wrap64 (c + 1))))
              have HR3 := Aside0.mk (HR2.out.kept (grownBy_setCell' w2 (w.heap.size + 1 + 1 + 1 + 1 + 1) (.int .i64 (wrap64 (c + 1)))) (.inr (D5.out.not_row (by decide) HR2.out).symm))
              have MB3 := Aside0.mk (mB_count (wrap64 (c + 1)) (by have := SB.out; omega) MB2.out)
              have SZ1 := Aside0.mk (show w.heap.size ≤ (w2.setCell ⟨w.heap.size + 1 + 1 + 1 + 1 + 1, 0, none⟩ (.int .i64 (wrap64 (c + 1)))).heap.size from MB3.out.2.2.2.2.2.2.2.size)
              have HSZ : Aside0 ((w2.setCell ⟨w.heap.size + 1 + 1 + 1 + 1 + 1, 0, none⟩ (.int .i64 (wrap64 (c + 1)))).heap.size = w2.heap.size) := ⟨by simp⟩
              gi_wp2_with (gi_at_builtin; refine wpListIn_append_own _ rfl _ _ 22 rfl w.heap.size 5 i0 (.int .u8 0) 1 1 Try.underlying22 hi hz0 hz1 hz2 rfl (by decide) _ _ _ rfl (World.ownsRow.alloc HR3.out _) ⟨w2.heap.size, 0, none⟩ 1 1 [.int .u8 (n % 256)] rfl rfl (fun j u hj => by have h_ := cell_one_new (w2.setCell ⟨w.heap.size + 1 + 1 + 1 + 1 + 1, 0, none⟩ (.int .i64 (wrap64 (c + 1)))) (.int .u8 (n % 256)) 5 j u hj; rw [HSZ.out] at h_; exact h_) (by simp [Value.oneCell']) (by have := HLEN.out; unfold maxLen; omega) (by have := HLEN.out; omega) (by have := SZ0.out; simp; omega) ?_; intro v' w1 hown' hgrow _; obtain ⟨g', cap', rfl⟩ := ownsRow_succ hown'; have hv1 : Boxed w1 (w.heap.size + 1 + 1 + 1 + 1) 22 v := ((H4c.out).alloc _).kept hgrow ((H4c.out).not_row (by decide) HR3.out); have hc1 := hv1.cell; have hf1 := hv1.frozen; have HG := Aside0.mk hgrow; have HO := Aside0.mk hown'; clear hgrow hown' hv1)
              exact good_out (pre ++ [x]) (o' := o ++ [n % 256]) (by have := SB.out; omega) (KO.out.trans (KeepsOthers.setCell _ _ _)) MB3.out BSS.out BNN.out H4c.out HR3.out (by have h_ := HO.out; rw [List.length_append]; simpa [nums] using h_) HG.out (by rw [HSN.out]; rfl)
            · have q5 : (md == 1) = false := by simpa using h1
              have q6 : (md = 1) = False := eq_false h1
              have HN1 := Aside0.mk (show mstep o c (some (n, md)) = some (o ++ [n % 256], c) by simp only [mstep]; rw [if_neg hmd, if_neg h1])
              clear hmd h1
              gi_wp2_with (gi_at_builtin; refine wpListIn_append_own _ rfl _ _ 22 rfl w.heap.size 5 i0 (.int .u8 0) 1 1 Try.underlying22 hi hz0 hz1 hz2 rfl (by decide) _ _ _ rfl (World.ownsRow.alloc HR2.out _) ⟨w2.heap.size, 0, none⟩ 1 1 [.int .u8 (n % 256)] rfl rfl (cell_one_new _ _ _) (by simp [Value.oneCell']) (by have := HLEN.out; unfold maxLen; omega) (by have := HLEN.out; omega) (by have := SZ0.out; simp; omega) ?_; intro v' w1 hown' hgrow _; obtain ⟨g', cap', rfl⟩ := ownsRow_succ hown'; have hv1 : Boxed w1 (w.heap.size + 1 + 1 + 1 + 1) 22 v := ((H4.out).alloc _).kept hgrow ((H4.out).not_row (by decide) HR2.out); have hc1 := hv1.cell; have hf1 := hv1.frozen; have HG := Aside0.mk hgrow; have HO := Aside0.mk hown'; clear hgrow hown' hv1)
              exact good_out (pre ++ [x]) (o' := o ++ [n % 256]) (by have := SB.out; omega) KO.out MB2.out BSS.out BNN.out H4.out HR2.out (by have h_ := HO.out; rw [List.length_append]; simpa [nums] using h_) HG.out (by rw [HSN.out, HN1.out])
    case done =>
      clear bA0 bA1 bA2 bA3 bA4 bA5 rB bS bN hI0 lC2 hcv
      rintro D ys W hD rfl ⟨o, c, v, hf, h4, hv, hm0⟩ hK
      subst hLl
      rw [fin_row] at hf
      have HR1 := HR.out
      rw [hf] at HR1
      simp only [mendR, Prod.mk.injEq] at HR1
      obtain ⟨rfl, rfl, rfl⟩ := HR1
      obtain ⟨h5, b0, b1, b2, bs, bn, rb, hB⟩ := hm0
      have c4 := h4.cell
      have c5 := h5.cell
      have c0 := b0.cell
      have c1 := b1.cell
      have c2 := b2.cell
      have z0 := b0.frozen
      have z1 := b1.frozen
      have z2 := b2.frozen
      have hcs : (convert 22 9 v).run Try.prog W.drew = .ok (.string (strOfNums o)) W.drew := own_string Try.underlying22 Try.underlying5 Try.underlying9 (pw_own_below hv (below_drew1 (Below.refl _ _)))
      have H0 := Aside0.mk b0
      have H1 := Aside0.mk b1
      have H2 := Aside0.mk b2
      have HB := Aside0.mk hB
      have HK := Aside0.mk hK
      clear h5 b0 b1 b2 bs bn rb hB hv h4 hf hK
      gi_wp2
      gi_region
      gi_wp2
      obtain ⟨f0, f1, f2, fk, fb⟩ := outs_set w W (.string (strOfNums o)) (.int .i64 c) (.bool true) H0.out H1.out H2.out HB.out
      have hK' := fk.same D _ HK.out rfl
      refine ⟨by simp, .inl ⟨_, _, rfl, run_takeDeferred hK', ?_⟩⟩
      have g0 := cell_kept f0.cell (grownBy_putObj' _ D (.deferred none)) (fun r e => by cases e; exact ⟨_, hK', rfl⟩)
      have g1 := cell_kept f1.cell (grownBy_putObj' _ D (.deferred none)) (fun r e => by cases e; exact ⟨_, hK', rfl⟩)
      have g2 := cell_kept f2.cell (grownBy_putObj' _ D (.deferred none)) (fun r e => by cases e; exact ⟨_, hK', rfl⟩)
      have hDw : w.heap.size ≤ D := by have := SC.out; omega
      have hB2 := fb.trans (belowK_b (w := w) (Nat.le_refl _) _ D _ (.deferred none) hDw hK' rfl rfl)
      refine ⟨.tuple #[.string (strOfNums o), .int .i64 c, .bool true], ?_, rfl, hB2⟩
      simp [results, Try.f53, go_sem, g0, g1, g2]
    case stop =>
      clear bA0 bA1 bA2 bA3 bA4 bA5 rB bS bN hI0 lC2 hcv
      rintro D cc pre W hD ⟨k', hk', rfl⟩ ⟨⟨rfl, hn, b0, b1, b2⟩, hB⟩ hK
      subst hLl
      have hnL : mfold L [] 0 = none := by
        have h_ := mfold_none _ _ _ (((List.finRange L.length).drop k').map fun j => L.getD j.1 none) hn
        rw [← List.map_append, List.take_append_drop, fin_row] at h_
        exact h_
      have HR1 := HR.out
      rw [hnL] at HR1
      simp only [mendR, Prod.mk.injEq] at HR1
      obtain ⟨rfl, rfl, rfl⟩ := HR1
      gi_wp2
      refine ⟨by simp, .inl ⟨_, _, rfl, run_takeDeferred hK, ?_⟩⟩
      have g0 := cell_kept b0.cell (grownBy_putObj' _ D (.deferred none)) (fun r e => by cases e; exact ⟨_, hK, rfl⟩)
      have g1 := cell_kept b1.cell (grownBy_putObj' _ D (.deferred none)) (fun r e => by cases e; exact ⟨_, hK, rfl⟩)
      have g2 := cell_kept b2.cell (grownBy_putObj' _ D (.deferred none)) (fun r e => by cases e; exact ⟨_, hK, rfl⟩)
      have hDw : w.heap.size ≤ D := by have := SC.out; omega
      have hB2 : Below w.heap.size w (W.putObj D (.deferred none)) := hB.trans (belowK_b (w := w) (Nat.le_refl _) W D _ _ hDw hK rfl rfl)
      refine ⟨.tuple #[.string ⟨#[]⟩, .int .i64 0, .bool false], ?_, rfl, hB2⟩
      simp [results, Try.f53, go_sem, g0, g1, g2]
  · rw [if_neg hl] at h
    simp only [Option.some.injEq, Prod.mk.injEq] at h
    obtain ⟨rfl, rfl, rfl⟩ := h
    have HB := Aside0.mk (Below.refl w.heap.size w)
    by_cases hm : a0.size % 2 = 0
    · have d1 : Int.tmod (a0.size : Int) 2 = 0 := by rw [Int.tmod_eq_emod_of_nonneg (by omega)]; omega
      have d3 : (120 < (a0.size : Int)) = True := eq_true (by omega)
      have d4 : decide ((a0.size : Int) > 120) = true := decide_eq_true (by omega)
      clear hl hm
      go_enter Try.func53, Try.ntmps53
      go_wp2
      refine bodyPost_ret (v := .tuple #[.string ⟨#[]⟩, .int .i64 0, .bool false]) (by simp [results, Try.f53, go_sem]) rfl ?_
      exact ⟨rfl, below_alloc (below_alloc (below_alloc (Below.refl _ _) _) _) _⟩
    · have d1 : Int.tmod (a0.size : Int) 2 = 1 := by rw [Int.tmod_eq_emod_of_nonneg (by omega)]; omega
      clear hl hm
      go_enter Try.func53, Try.ntmps53
      go_wp2
      refine bodyPost_ret (v := .tuple #[.string ⟨#[]⟩, .int .i64 0, .bool false]) (by simp [results, Try.f53, go_sem]) rfl ?_
      exact ⟨rfl, below_alloc (below_alloc (below_alloc (Below.refl _ _) _) _) _⟩
end


/-- A state of type 75 at block g of W; what its slices lead to came in by w0. -/
def IsS75 (w0 W : World) (g : Nat) (f0 : List Int) (f1 : Int) (f2 : Int) : Prop := ∃ A0 c0, W.heap[g]? = some (.cells #[.slice A0 f0.length c0, .int .i64 f1, .int .u64 f2] 75 (0, 0)) ∧ w0.heap.size ≤ g ∧ Kd.C (Kd.int .u8) w0 A0 f0.length f0
theorem IsS75.grown {w0 W : World} {g : Nat} {f0 : List Int} {f1 : Int} {f2 : Int} {W1 : World} {row : Option Nat} (h : IsS75 w0 W g f0 f1 f2) (hw : W.grownBy W1 row) (hne : some g ≠ row) : IsS75 w0 W1 g f0 f1 f2 := by
  obtain ⟨A0, c0, hb, hg, hr0⟩ := h
  exact ⟨A0, c0, blk_grown hb hw hne, hg, hr0⟩
theorem IsS75.own_neN {w0 W : World} {g : Nat} {f0 : List Int} {f1 : Int} {f2 : Int} {α : Type} {d : Kd α} {e : Nat} {base : Nat} {ok : Nat → Prop} {v : Value} {xs : List α} (h : IsS75 w0 W g f0 f1 f2) (ho : Kd.N d e W base ok v xs) (ht : e ≠ 75) : some g ≠ v.ownBlock := by
  obtain ⟨A0, c0, hb, hg, hr0⟩ := h
  exact Kd.N_ne ho hb ht
theorem IsS75.fresh {w0 W : World} {g : Nat} {f0 : List Int} {f1 : Int} {f2 : Int} (h : IsS75 w0 W g f0 f1 f2) : ∀ k, W.heap.size ≤ k → k ≠ g := by
  obtain ⟨A0, c0, hb, hg, hr0⟩ := h
  exact Kd.freshB hb
theorem IsS75.kept {w0 W : World} {g : Nat} {f0 : List Int} {f1 : Int} {f2 : Int} {W1 : World} {S : Nat → Prop} (h : IsS75 w0 W g f0 f1 f2) (hk : Kept W W1 S) (hne : ¬ S g) : IsS75 w0 W1 g f0 f1 f2 := by
  obtain ⟨A0, c0, hb, hg, hr0⟩ := h
  exact ⟨A0, c0, blk_kept hb hk hne, hg, hr0⟩
theorem IsS75.below {w0 W : World} {g : Nat} {f0 : List Int} {f1 : Int} {f2 : Int} {W1 : World} (h : IsS75 w0 W g f0 f1 f2) (hw : Below W.heap.size W W1) : IsS75 w0 W1 g f0 f1 f2 := h.grown (grown_of_below hw none) (by simp)
theorem IsS75.alloc {w0 W : World} {g : Nat} {f0 : List Int} {f1 : Int} {f2 : Int} (h : IsS75 w0 W g f0 f1 f2) (o : Obj) : IsS75 w0 (W.alloc o) g f0 f1 f2 := h.below (below_alloc (Below.refl _ _) o)
theorem IsS75.drewN {w0 W : World} {g : Nat} {f0 : List Int} {f1 : Int} {f2 : Int} (h : IsS75 w0 W g f0 f1 f2) (m : Nat) : IsS75 w0 (W.drewN m) g f0 f1 f2 := h
theorem IsS75.drew {w0 W : World} {g : Nat} {f0 : List Int} {f1 : Int} {f2 : Int} (h : IsS75 w0 W g f0 f1 f2) : IsS75 w0 W.drew g f0 f1 f2 := h
theorem IsS75.at_ {w0 W : World} {g : Nat} {f0 : List Int} {f1 : Int} {f2 : Int} {w' : World} {m : Nat} (hq : W.drewN m = w') (h : IsS75 w0 W g f0 f1 f2) : IsS75 w0 w' g f0 f1 f2 := by subst hq; exact IsS75.drewN h m
theorem IsS75.apart {w0 W : World} {g : Nat} {f0 : List Int} {f1 : Int} {f2 : Int} {α : Type} {d : Kd α} {e : Nat} {base : Nat} {ok : Nat → Prop} {v : Value} {xs : List α} (h : IsS75 w0 W g f0 f1 f2) (ho : d.R e W base ok v xs) (ht : ∀ q, q ∈ e :: d.E → q ≠ 75) : d.R e W base (fun k => ok k ∧ k ≠ g) v xs := by
  obtain ⟨A0, c0, hb, hg, hr0⟩ := h
  exact Kd.R_types ho hb ht
theorem IsS75.own_ne {w0 W : World} {g : Nat} {f0 : List Int} {f1 : Int} {f2 : Int} {α : Type} {d : Kd α} {e : Nat} {base : Nat} {ok : Nat → Prop} {v : Value} {xs : List α} (h : IsS75 w0 W g f0 f1 f2) (ho : d.R e W base ok v xs) (ht : e ≠ 75) : some g ≠ v.ownBlock := by
  obtain ⟨A0, c0, hb, hg, hr0⟩ := h
  exact Kd.R_ne ho hb ht
theorem IsS75.apartQ {w0 W : World} {g : Nat} {f0 : List Int} {f1 : Int} {f2 : Int} {α : Type} {d : Kd α} {e : Nat} {base : Nat} {ok : Nat → Prop} {v : Value} {xs : List α} (h : IsS75 w0 W g f0 f1 f2) (ho : d.Q e W base ok v xs) (ht : ∀ q, q ∈ e :: d.E → q ≠ 75) : d.Q e W base (fun k => ok k ∧ k ≠ g) v xs := by
  obtain ⟨A0, c0, hb, hg, hr0⟩ := h
  exact Kd.Q_types ho hb ht
theorem IsS75.own_neQ {w0 W : World} {g : Nat} {f0 : List Int} {f1 : Int} {f2 : Int} {α : Type} {d : Kd α} {e : Nat} {base : Nat} {ok : Nat → Prop} {v : Value} {xs : List α} (h : IsS75 w0 W g f0 f1 f2) (ho : d.Q e W base ok v xs) (ht : e ≠ 75) : some g ≠ v.ownBlock := by
  obtain ⟨A0, c0, hb, hg, hr0⟩ := h
  exact Kd.Q_ne ho hb ht
theorem IsS75.apartS {w0 W : World} {g : Nat} {f0 : List Int} {f1 : Int} {f2 : Int} {α : Type} {d : Kd α} {e : Nat} {base : Nat} {ok : Nat → Prop} {v : Value} {xs : List α} (h : IsS75 w0 W g f0 f1 f2) (ho : d.S e W base ok v xs) (ht : ∀ q, q ∈ e :: d.E → q ≠ 75) : d.S e W base (fun k => ok k ∧ k ≠ g) v xs := by
  obtain ⟨A0, c0, hb, hg, hr0⟩ := h
  exact Kd.S_types ho hb ht
theorem IsS75.own_neS {w0 W : World} {g : Nat} {f0 : List Int} {f1 : Int} {f2 : Int} {α : Type} {d : Kd α} {e : Nat} {base : Nat} {ok : Nat → Prop} {v : Value} {xs : List α} (h : IsS75 w0 W g f0 f1 f2) (ho : d.S e W base ok v xs) (ht : e ≠ 75) : some g ≠ v.ownBlock := by
  obtain ⟨A0, c0, hb, hg, hr0⟩ := h
  exact Kd.S_ne ho hb ht
theorem IsS75.lt {w0 W : World} {g : Nat} {f0 : List Int} {f1 : Int} {f2 : Int} (h : IsS75 w0 W g f0 f1 f2) : g < W.heap.size := by
  obtain ⟨A0, c0, hb, hg, hr0⟩ := h
  exact blk_lt hb
theorem IsS75.ge {w0 W : World} {g : Nat} {f0 : List Int} {f1 : Int} {f2 : Int} (h : IsS75 w0 W g f0 f1 f2) : w0.heap.size ≤ g := by
  obtain ⟨A0, c0, hb, hg, hr0⟩ := h
  exact hg
theorem IsS75.ne_blk {w0 W : World} {g : Nat} {f0 : List Int} {f1 : Int} {f2 : Int} {a : Nat} {cs : Array Value} {t : TypeId} {fr : Nat × Nat} (h : IsS75 w0 W g f0 f1 f2) (hb2 : W.heap[a]? = some (.cells cs t fr)) (ht : t ≠ 75) : g ≠ a := by
  obtain ⟨A0, c0, hb, hg, hr0⟩ := h
  rintro rfl
  rw [hb] at hb2
  injection hb2 with hb2
  injection hb2 with _ ht2
  exact ht ht2.symm
theorem IsS75.far {w0 W : World} {g : Nat} {f0 : List Int} {f1 : Int} {f2 : Int} {p : Addr} (h : IsS75 w0 W g f0 f1 f2) (hne : g ≠ p.block) (u : Value) : IsS75 w0 (W.setCell p u) g f0 f1 f2 := by
  obtain ⟨A0, c0, hb, hg, hr0⟩ := h
  exact ⟨A0, c0, blk_far hb hne u, hg, hr0⟩
theorem cellS75_0 {W : World} {g : Nat} {A0 : Option Addr} {c0 : Nat} {f0 : List Int} {f1 : Int} {f2 : Int} (h : W.heap[g]? = some (.cells #[.slice A0 f0.length c0, .int .i64 f1, .int .u64 f2] 75 (0, 0))) : W.cell? ⟨g, 0, none⟩ = some (.slice A0 f0.length c0) := (blk_cell h 0).trans rfl
theorem cellS75_1 {W : World} {g : Nat} {A0 : Option Addr} {c0 : Nat} {f0 : List Int} {f1 : Int} {f2 : Int} (h : W.heap[g]? = some (.cells #[.slice A0 f0.length c0, .int .i64 f1, .int .u64 f2] 75 (0, 0))) : W.cell? ⟨g, 1, none⟩ = some (.int .i64 f1) := (blk_cell h 1).trans rfl
theorem IsS75.set_1 {w0 W : World} {g : Nat} {f0 : List Int} {f1 : Int} {f2 : Int} (h : IsS75 w0 W g f0 f1 f2) (x : Int) : IsS75 w0 (W.setCell ⟨g, 1, none⟩ (.int .i64 x)) g f0 x f2 := by
  obtain ⟨A0, c0, hb, hg, hr0⟩ := h
  exact ⟨A0, c0, by simpa using blk_set hb 1 (.int .i64 x), hg, hr0⟩
theorem cellS75_2 {W : World} {g : Nat} {A0 : Option Addr} {c0 : Nat} {f0 : List Int} {f1 : Int} {f2 : Int} (h : W.heap[g]? = some (.cells #[.slice A0 f0.length c0, .int .i64 f1, .int .u64 f2] 75 (0, 0))) : W.cell? ⟨g, 2, none⟩ = some (.int .u64 f2) := (blk_cell h 2).trans rfl
theorem IsS75.set_2 {w0 W : World} {g : Nat} {f0 : List Int} {f1 : Int} {f2 : Int} (h : IsS75 w0 W g f0 f1 f2) (x : Int) : IsS75 w0 (W.setCell ⟨g, 2, none⟩ (.int .u64 x)) g f0 f1 x := by
  obtain ⟨A0, c0, hb, hg, hr0⟩ := h
  exact ⟨A0, c0, by simpa using blk_set hb 2 (.int .u64 x), hg, hr0⟩
theorem IsS75.new (w0 W : World) (A0 : Option Addr) (c0 : Nat) (f0 : List Int) (f1 : Int) (f2 : Int) (hB : Below w0.heap.size w0 W) (hr0 : Kd.C (Kd.int .u8) w0 A0 f0.length f0) : IsS75 w0 (W.alloc (.cells #[.slice A0 f0.length c0, .int .i64 f1, .int .u64 f2] 75)) W.heap.size f0 f1 f2 := ⟨A0, c0, by simpa using heap_alloc_new W _, hB.size, hr0⟩

/-! ### spec_l1Cur_next: function 103 -/
def spec_l1Cur_next.f (s0_0 : List Int) (s0_1 : Int) (s0_2 : Int) : Option (Int × Int × Int) := if s0_1 < (s0_0.length : Int) then (if 0 ≤ s0_1 then (if (wrap64 (s0_1 + 1)) ≤ (s0_0.length : Int) then (some (wrap64 (rd s0_0 s0_1), wrap64 (s0_1 + 1), IntKind.u64.wrap ((IntKind.u64.wrap ((IntKind.u64.wrap (s0_2 * 6364136223846793005)) + (IntKind.u64.wrap (wrap64 (rd s0_0 s0_1))))) + 1442695040888963407))) else (some (wrap64 (Go.bits .and .u64 ((IntKind.u64.wrap ((IntKind.u64.wrap ((IntKind.u64.wrap (s0_2 * 6364136223846793005)) + (IntKind.u64.wrap (wrap64 (rd s0_0 s0_1))))) + 1442695040888963407)) / 1099511627776) 255), wrap64 (s0_1 + 1), IntKind.u64.wrap ((IntKind.u64.wrap ((IntKind.u64.wrap (s0_2 * 6364136223846793005)) + (IntKind.u64.wrap (wrap64 (rd s0_0 s0_1))))) + 1442695040888963407)))) else (none)) else (if (wrap64 (s0_1 + 1)) ≤ (s0_0.length : Int) then (some (0, wrap64 (s0_1 + 1), IntKind.u64.wrap ((IntKind.u64.wrap ((IntKind.u64.wrap (s0_2 * 6364136223846793005)) + 0)) + 1442695040888963407))) else (some (wrap64 (Go.bits .and .u64 ((IntKind.u64.wrap ((IntKind.u64.wrap ((IntKind.u64.wrap (s0_2 * 6364136223846793005)) + 0)) + 1442695040888963407)) / 1099511627776) 255), wrap64 (s0_1 + 1), IntKind.u64.wrap ((IntKind.u64.wrap ((IntKind.u64.wrap (s0_2 * 6364136223846793005)) + 0)) + 1442695040888963407))))
set_option maxHeartbeats 8000000 in
set_option maxRecDepth 100000 in
theorem spec_l1Cur_next.calls (g : Nat) (s0_0 : List Int) (s0_1 : Int) (s0_2 : Int) (r1 : Int) (r2 : Int) (r3 : Int) (w0 w : World) (hI : IsS75 w0 w g s0_0 s0_1 s0_2) (hB : Below w0.heap.size w0 w) (h : spec_l1Cur_next.f s0_0 s0_1 s0_2 = some (r1, r2, r3)) :
    Calls Try.prog 103 #[.pointer (some ⟨g, 0, none⟩)] w fun e w' => e = .returned (.int .i64 r1) ∧ IsS75 w0 w' g s0_0 r2 r3 ∧ Below w0.heap.size w0 w' ∧ KeepBut w w' g none := by
  have HI0 := Aside0.mk hI
  have HK := Aside0.mk (KeepBut.refl w g none)
  have HL := Aside0.mk hB.size
  clear hI
  have HW0 := Aside0.mk hB.size
  have HB := Aside0.mk hB
  clear hB
  have H : (if s0_1 < (s0_0.length : Int) then (if 0 ≤ s0_1 then (if (wrap64 (s0_1 + 1)) ≤ (s0_0.length : Int) then (some (wrap64 (rd s0_0 s0_1), wrap64 (s0_1 + 1), IntKind.u64.wrap ((IntKind.u64.wrap ((IntKind.u64.wrap (s0_2 * 6364136223846793005)) + (IntKind.u64.wrap (wrap64 (rd s0_0 s0_1))))) + 1442695040888963407))) else (some (wrap64 (Go.bits .and .u64 ((IntKind.u64.wrap ((IntKind.u64.wrap ((IntKind.u64.wrap (s0_2 * 6364136223846793005)) + (IntKind.u64.wrap (wrap64 (rd s0_0 s0_1))))) + 1442695040888963407)) / 1099511627776) 255), wrap64 (s0_1 + 1), IntKind.u64.wrap ((IntKind.u64.wrap ((IntKind.u64.wrap (s0_2 * 6364136223846793005)) + (IntKind.u64.wrap (wrap64 (rd s0_0 s0_1))))) + 1442695040888963407)))) else (none)) else (if (wrap64 (s0_1 + 1)) ≤ (s0_0.length : Int) then (some (0, wrap64 (s0_1 + 1), IntKind.u64.wrap ((IntKind.u64.wrap ((IntKind.u64.wrap (s0_2 * 6364136223846793005)) + 0)) + 1442695040888963407))) else (some (wrap64 (Go.bits .and .u64 ((IntKind.u64.wrap ((IntKind.u64.wrap ((IntKind.u64.wrap (s0_2 * 6364136223846793005)) + 0)) + 1442695040888963407)) / 1099511627776) 255), wrap64 (s0_1 + 1), IntKind.u64.wrap ((IntKind.u64.wrap ((IntKind.u64.wrap (s0_2 * 6364136223846793005)) + 0)) + 1442695040888963407))))) = some (r1, r2, r3) := h
  clear h
  by_cases c2 : s0_1 < (s0_0.length : Int)
  · rw [if_pos c2] at H
    have c2b0 : decide (s0_1 < (s0_0.length : Int)) = true := decide_eq_true c2
    clear c2
    by_cases c3 : 0 ≤ s0_1
    · rw [if_pos c3] at H
      have c3b0 : decide (0 ≤ s0_1) = true := decide_eq_true c3
      clear c3
      by_cases c4 : (wrap64 (s0_1 + 1)) ≤ (s0_0.length : Int)
      · rw [if_pos c4] at H
        have c4b0 : decide ((wrap64 (s0_1 + 1)) ≤ (s0_0.length : Int)) = true := decide_eq_true c4
        clear c4
        simp only [Option.some.injEq, Prod.mk.injEq] at H
        obtain ⟨rfl, rfl, rfl⟩ := H
        obtain ⟨ASz5_0, cSz5_0, HGz5, hgz5, HSz5_0⟩ := HI0.out
        have hcz5_0 := cellS75_0 HGz5
        have hcz5_1 := cellS75_1 HGz5
        have hcz5_2 := cellS75_2 HGz5
        have hfz5_1 := blk_frozen HGz5 1
        have hfz5_2 := blk_frozen HGz5 2
        clear HGz5 hgz5
        have p170 : 0 ≤ (s0_1 : Int) := of_decide_eq_true (by first | (with_reducible assumption) | assumption)
        have q170 : s0_1 < (s0_0.length : Int) := of_decide_eq_true (by first | (with_reducible assumption) | assumption)
        obtain ⟨ad170, e170, hx170_0⟩ := Kd.at_int HSz5_0 s0_1 p170 q170
        cases e170
        replace hx170_0 := pw_cell_below HB.out hx170_0
        replace p170 := eq_true p170
        replace q170 := eq_true q170
        go_enter Try.func103, Try.ntmps103
        go_wp2
        repeat (go_quiet (fail); try go_wp2)
        go_ret
        exact ⟨by first | rfl | (simp [errW_none, errW_some] <;> rfl) | (simp [*, errW_none, errW_some] <;> rfl), by (try simp only [Int.add_zero]); repeat (first | (with_reducible first | exact HI0.out | apply IsS75.alloc | apply IsS75.drewN | apply IsS75.drew | apply IsS75.set_1 | apply IsS75.set_2) | exact HI0.out), by repeat (first | (with_reducible first | exact HB.out | apply below_alloc | apply pw_below_drewN | apply below_drew1 | refine below_set ?_ (IsS75.ge HI0.out)) | exact HB.out), by repeat (first | (with_reducible first | exact HK.out | apply KeepBut.set_ | apply keep_drewN | apply keep_drew | apply keep_alloc) | exact HK.out)⟩
      · rw [if_neg c4] at H
        have c4b0 : decide ((wrap64 (s0_1 + 1)) ≤ (s0_0.length : Int)) = false := decide_eq_false c4
        clear c4
        simp only [Option.some.injEq, Prod.mk.injEq] at H
        obtain ⟨rfl, rfl, rfl⟩ := H
        obtain ⟨ASz6_0, cSz6_0, HGz6, hgz6, HSz6_0⟩ := HI0.out
        have hcz6_0 := cellS75_0 HGz6
        have hcz6_1 := cellS75_1 HGz6
        have hcz6_2 := cellS75_2 HGz6
        have hfz6_1 := blk_frozen HGz6 1
        have hfz6_2 := blk_frozen HGz6 2
        clear HGz6 hgz6
        have p170 : 0 ≤ (s0_1 : Int) := of_decide_eq_true (by first | (with_reducible assumption) | assumption)
        have q170 : s0_1 < (s0_0.length : Int) := of_decide_eq_true (by first | (with_reducible assumption) | assumption)
        obtain ⟨ad170, e170, hx170_0⟩ := Kd.at_int HSz6_0 s0_1 p170 q170
        cases e170
        replace hx170_0 := pw_cell_below HB.out hx170_0
        replace p170 := eq_true p170
        replace q170 := eq_true q170
        go_enter Try.func103, Try.ntmps103
        go_wp2
        repeat (go_quiet (fail); try go_wp2)
        go_ret
        exact ⟨by first | rfl | (simp [errW_none, errW_some] <;> rfl) | (simp [*, errW_none, errW_some] <;> rfl), by (try simp only [Int.add_zero]); repeat (first | (with_reducible first | exact HI0.out | apply IsS75.alloc | apply IsS75.drewN | apply IsS75.drew | apply IsS75.set_1 | apply IsS75.set_2) | exact HI0.out), by repeat (first | (with_reducible first | exact HB.out | apply below_alloc | apply pw_below_drewN | apply below_drew1 | refine below_set ?_ (IsS75.ge HI0.out)) | exact HB.out), by repeat (first | (with_reducible first | exact HK.out | apply KeepBut.set_ | apply keep_drewN | apply keep_drew | apply keep_alloc) | exact HK.out)⟩
    · rw [if_neg c3] at H
      exact absurd H (by simp)
  · rw [if_neg c2] at H
    have c2b0 : decide (s0_1 < (s0_0.length : Int)) = false := decide_eq_false c2
    clear c2
    by_cases c7 : (wrap64 (s0_1 + 1)) ≤ (s0_0.length : Int)
    · rw [if_pos c7] at H
      have c7b0 : decide ((wrap64 (s0_1 + 1)) ≤ (s0_0.length : Int)) = true := decide_eq_true c7
      clear c7
      simp only [Option.some.injEq, Prod.mk.injEq] at H
      obtain ⟨rfl, rfl, rfl⟩ := H
      obtain ⟨ASz8_0, cSz8_0, HGz8, hgz8, HSz8_0⟩ := HI0.out
      have hcz8_0 := cellS75_0 HGz8
      have hcz8_1 := cellS75_1 HGz8
      have hcz8_2 := cellS75_2 HGz8
      have hfz8_1 := blk_frozen HGz8 1
      have hfz8_2 := blk_frozen HGz8 2
      clear HGz8 hgz8
      go_enter Try.func103, Try.ntmps103
      go_wp2
      repeat (go_quiet (fail); try go_wp2)
      go_ret
      exact ⟨by first | rfl | (simp [errW_none, errW_some] <;> rfl) | (simp [*, errW_none, errW_some] <;> rfl), by (try simp only [Int.add_zero]); repeat (first | (with_reducible first | exact HI0.out | apply IsS75.alloc | apply IsS75.drewN | apply IsS75.drew | apply IsS75.set_1 | apply IsS75.set_2) | exact HI0.out), by repeat (first | (with_reducible first | exact HB.out | apply below_alloc | apply pw_below_drewN | apply below_drew1 | refine below_set ?_ (IsS75.ge HI0.out)) | exact HB.out), by repeat (first | (with_reducible first | exact HK.out | apply KeepBut.set_ | apply keep_drewN | apply keep_drew | apply keep_alloc) | exact HK.out)⟩
    · rw [if_neg c7] at H
      have c7b0 : decide ((wrap64 (s0_1 + 1)) ≤ (s0_0.length : Int)) = false := decide_eq_false c7
      clear c7
      simp only [Option.some.injEq, Prod.mk.injEq] at H
      obtain ⟨rfl, rfl, rfl⟩ := H
      obtain ⟨ASz9_0, cSz9_0, HGz9, hgz9, HSz9_0⟩ := HI0.out
      have hcz9_0 := cellS75_0 HGz9
      have hcz9_1 := cellS75_1 HGz9
      have hcz9_2 := cellS75_2 HGz9
      have hfz9_1 := blk_frozen HGz9 1
      have hfz9_2 := blk_frozen HGz9 2
      clear HGz9 hgz9
      go_enter Try.func103, Try.ntmps103
      go_wp2
      repeat (go_quiet (fail); try go_wp2)
      go_ret
      exact ⟨by first | rfl | (simp [errW_none, errW_some] <;> rfl) | (simp [*, errW_none, errW_some] <;> rfl), by (try simp only [Int.add_zero]); repeat (first | (with_reducible first | exact HI0.out | apply IsS75.alloc | apply IsS75.drewN | apply IsS75.drew | apply IsS75.set_1 | apply IsS75.set_2) | exact HI0.out), by repeat (first | (with_reducible first | exact HB.out | apply below_alloc | apply pw_below_drewN | apply below_drew1 | refine below_set ?_ (IsS75.ge HI0.out)) | exact HB.out), by repeat (first | (with_reducible first | exact HK.out | apply KeepBut.set_ | apply keep_drewN | apply keep_drew | apply keep_alloc) | exact HK.out)⟩

end Go.Proofs.Ytjibcpfgnnmfjaa.PFnGuarded
