/- The program's BytesFree answers as the reference's at all buddies; no condition. -/
import Derived.Test.YtbjcioihomeikaaQFnExactBytesFreex9
import Derived.OpenShut
set_option linter.unusedVariables false
set_option linter.unusedSimpArgs false
namespace Go.Proofs.Ytbjcioihomeikaa.Pure
open Go.RowKit Go.Proofs.Ytbjcioihomeikaa.PFnExactBytesFree Go.Proofs.YtbjcioihomeikaaW.PrintWords Go.Proofs.YtbjcioihomeikaaW.PrintLast Go.Proofs.YtbjcioihomeikaaW.PrintMore 

theorem wr64 (n : Nat) (h : n < 2 ^ 62) : wrap64 (n : Int) = (n : Int) := by unfold wrap64; omega
theorem wri (n : Int) (h : 0 ≤ n) (h1 : n < 2 ^ 62) : wrap64 n = n := by unfold wrap64; omega
theorem byte_of {x : Int} (h : (Lit.int .u8 x).wf = true) : ∃ n : Nat, n < 256 ∧ x = (n : Int) := by
  have := bounds_u8 h
  exact ⟨x.toNat, by omega, by omega⟩
theorem shr_nat (b j q : Nat) (hj : j ≤ 8) (hq : q = b / 2 ^ j) : shr .u8 (b : Int) (j : Int) = (q : Int) := by
  unfold shr
  rw [Int.toNat_natCast, Nat.min_eq_left (show j ≤ IntKind.bits .u8 from hj), hq]
  simp
theorem dbl (x : Nat) (hx : x < 256) : wrap64 ((x : Int) * 2) = ((2 * x : Nat) : Int) := by unfold wrap64; omega
theorem inc (j : Nat) (hj : j < 2 ^ 62) : wrap64 ((j : Int) + 1) = ((j + 1 : Nat) : Int) := by unfold wrap64; omega
theorem nn (n : Nat) : ¬ ((n : Int) < 0) := by omega

theorem within_tells (a b c : Int) : impl_within.f a b c = some (decide (a ≥ b ∧ a ≤ c)) := by
  unfold impl_within.f
  split
  · rename_i h; simp [h]
  · rename_i h; simp [h]
theorem l1In_tells (a b c : Int) : spec_l1In.f a b c = some (decide (a ≥ b ∧ a ≤ c)) := by
  unfold spec_l1In.f
  split
  · rename_i h; simp [h]
  · rename_i h; simp [h]

theorem ev_of {α : Type} {g : Nat → Option α} {r : α} (K : Nat) (h : ∀ k, K < k → g k = some r) : Ev g r := ⟨K + 1, fun k hk => h k (by omega)⟩
theorem evp {α : Type} {c : Prop} [Decidable c] {f g : Nat → Option α} {r : α} (h : c) (k : Ev f r) : Ev (fun n => if c then f n else g n) r := Ev.congr (fun _ => if_pos h) k
theorem evn {α : Type} {c : Prop} [Decidable c] {f g : Nat → Option α} {r : α} (h : ¬ c) (k : Ev g r) : Ev (fun n => if c then f n else g n) r := Ev.congr (fun _ => if_neg h) k
theorem ev_some {α β : Type} {a : α} {f : Nat → α → Option β} {r : β} (h : Ev (fun n => f n a) r) : Ev (fun n => (some a).bind (f n)) r := h
theorem ev_to_some {α β : Type} {o : Option α} {a : α} {f : Nat → α → Option β} {r : β} (ho : o = some a) (h : Ev (fun n => f n a) r) : Ev (fun n => o.bind (f n)) r := by subst ho; exact h
theorem maxLen_lt : maxLen < 2 ^ 63 := by decide

theorem gset {α : Type} (z : α) (xs : List α) (i j : Nat) (v : α) (hi : i < xs.length) : (xs.set i v).getD j z = if j = i then v else xs.getD j z := by
  simp only [List.getD_eq_getElem?_getD, List.getElem?_set]
  by_cases h : i = j
  · subst h; simp [hi]
  · rw [if_neg h, if_neg (fun e => h e.symm)]
theorem gext {α : Type} (z : α) {l m : List α} (hl : l.length = m.length) (h : ∀ j, j < l.length → l.getD j z = m.getD j z) : l = m := by
  apply List.ext_getElem hl
  intro j h1 h2
  have := h j h1
  simpa [List.getD_eq_getElem?_getD, h1, h2] using this
theorem rdOf_nat {α : Type} (z : α) (xs : List α) (i : Nat) : rdOf z xs (i : Int) = xs.getD i z := by unfold rdOf; rw [Int.toNat_natCast]
theorem gmem {α : Type} (z : α) {xs : List α} {i : Nat} (h : i < xs.length) : xs.getD i z ∈ xs := by
  rw [List.getD_eq_getElem?_getD]; simp [h]
/-- what a count of sizes leaves -/
def Left (B r : Int) : Prop := r < 0 ∨ 0 ≤ r ∧ r ≤ B

theorem shl_sz (o : Nat) (h : o ≤ 8) : shl .i64 1 (o : Int) = ((2 ^ o : Nat) : Int) := by
  have : ∀ o : Nat, o ≤ 8 → shl .i64 1 (o : Int) = ((2 ^ o : Nat) : Int) := by
    intro o ho
    match o, ho with
    | 0, _ => rfl
    | 1, _ => rfl
    | 2, _ => rfl
    | 3, _ => rfl
    | 4, _ => rfl
    | 5, _ => rfl
    | 6, _ => rfl
    | 7, _ => rfl
    | 8, _ => rfl
  exact this o h
theorem u64_small (x : Int) (h0 : 0 ≤ x) (h1 : x < 2 ^ 62) : IntKind.u64.wrap x = x := by
  simp [IntKind.wrap, IntKind.bits, IntKind.signed]; omega
/-- is it a block, as both say it -/
def blk (a o : Int) : Bool := decide (0 ≤ o ∧ o ≤ 8) && (decide (0 ≤ a ∧ a ≤ 1073741824) && (Int.tmod a (2 ^ o.toNat) == 0))
theorem pow_cast (n : Nat) : ((2 ^ n : Nat) : Int) = (2 : Int) ^ n := by simp
theorem pow_ne (n : Nat) : ¬ ((2 : Int) ^ n = 0) := by
  have := Nat.two_pow_pos n
  rw [← pow_cast]; omega
theorem spec_block_tells (a o : Int) : spec_l6Block.f a o = some (blk a o) := by
  unfold spec_l6Block.f blk
  rw [l1In_tells, l1In_tells]
  simp only [Option.bind_some, ge_iff_le]
  by_cases h : 0 ≤ o ∧ o ≤ 8
  · obtain ⟨n, rfl⟩ := Int.eq_ofNat_of_zero_le h.1
    rw [decide_eq_true h, if_pos rfl, u64_small _ (by omega) (by omega), shl_sz n (by omega)]
    by_cases h2 : 0 ≤ a ∧ a ≤ 1073741824
    · rw [decide_eq_true h2, if_pos rfl, if_pos h.1, pow_cast, if_neg (pow_ne n), Int.toNat_natCast]
      rfl
    · rw [decide_eq_false h2]; rfl
  · rw [decide_eq_false h]; rfl
theorem impl_block_tells (a o : Int) : impl_isBlock.f a o = some (blk a o) := by
  unfold impl_isBlock.f blk
  rw [within_tells, within_tells]
  simp only [Option.bind_some, ge_iff_le]
  by_cases h : 0 ≤ o ∧ o ≤ 8
  · obtain ⟨n, rfl⟩ := Int.eq_ofNat_of_zero_le h.1
    rw [decide_eq_true h, if_pos rfl]
    by_cases h2 : 0 ≤ a ∧ a ≤ 1073741824
    · unfold impl_Block_size.f
      rw [decide_eq_true h2, if_pos rfl, if_pos h.1, shl_sz n (by omega), pow_cast]
      simp only [Option.bind_some]
      rw [if_neg (pow_ne n), Int.toNat_natCast]
      rfl
    · rw [decide_eq_false h2]; rfl
  · rw [decide_eq_false h]; rfl
/-- the buddy's place -/
def bud (a o : Int) : Int := Go.bits .xor .i64 a ((2 ^ o.toNat : Nat) : Int)
theorem spec_buddy_tells (a o : Int) (h0 : 0 ≤ o) (h : o ≤ 8) : spec_l6Buddy.f a o = some (bud a o, o) := by
  obtain ⟨n, rfl⟩ := Int.eq_ofNat_of_zero_le h0
  unfold spec_l6Buddy.f bud
  rw [u64_small _ (by omega) (by omega), if_pos h0, shl_sz n (by omega), Int.toNat_natCast]
theorem impl_buddy_tells (a o : Int) (h0 : 0 ≤ o) (h : o ≤ 8) : impl_Block_buddy.f a o = some (bud a o, o) := by
  obtain ⟨n, rfl⟩ := Int.eq_ofNat_of_zero_le h0
  unfold impl_Block_buddy.f impl_Block_size.f bud
  rw [if_pos h0, shl_sz n (by omega), Int.toNat_natCast]
  rfl
theorem blk_order {a o : Int} (h : blk a o = true) : 0 ≤ o ∧ o ≤ 8 := by
  unfold blk at h
  rw [Bool.and_eq_true] at h
  exact of_decide_eq_true h.1

def convBlock (x : S80) : S45 := ⟨x.f0, x.f1⟩
theorem rd_block (xs : List S45) (i : Nat) : rd_T45 xs (i : Int) = xs.getD i z45 := by unfold rd_T45; rw [Int.toNat_natCast]
theorem rd0_block (xs : List S80) (i : Nat) : rd_T80 xs (i : Int) = xs.getD i z80 := by unfold rd_T80; rw [Int.toNat_natCast]
theorem to_blocks_l (xs : List S80) (hl : xs.length < 2 ^ 40) (d : Nat) : ∀ (ys : List S45) (i : Nat), i + d = xs.length → ys.length = xs.length → (∀ j, j < i → ys.getD j z45 = (xs.map convBlock).getD j z45) →
    Ev (fun k => laws_toBlockS.l0 k xs ys (i : Int)) (xs.map convBlock) := by
  induction d with
  | zero =>
    intro ys i hi hy he
    refine Ev.step (fun k => by simp only [laws_toBlockS.l0]; rw [if_neg (by omega)]) ?_
    rw [gext z45 (l := ys) (m := xs.map convBlock) (by rw [List.length_map]; exact hy) (fun j hj => he j (by omega))]
    exact Ev.now _
  | succ d ih =>
    intro ys i hi hy he
    refine Ev.step (fun k => by
      simp only [laws_toBlockS.l0, laws_toBlock.f, Option.bind_some]
      rw [if_pos (by omega), if_pos (by omega), if_pos (by omega), rd0_block, Int.toNat_natCast, inc i (by omega)]) ?_
    refine ih _ (i + 1) (by omega) (by rw [List.length_set]; exact hy) (fun j hj => ?_)
    rw [gset _ _ _ _ _ (by omega)]
    split
    · rename_i e; subst e
      simp only [List.getD_eq_getElem?_getD, List.getElem?_map, List.getElem?_eq_getElem (show j < xs.length by omega), Option.map_some, Option.getD_some, convBlock]
    · exact he j (by omega)
theorem to_blocks (xs : List S80) (hl : xs.length < 2 ^ 40) : Ev (fun k => laws_toBlockS.f k xs) (xs.map convBlock) := by
  unfold laws_toBlockS.f
  exact evp (by omega) (evp (by omega) (to_blocks_l xs hl xs.length _ 0 (by omega) (by simp) (fun j hj => by omega)))
theorem eq_blocks_l (xs : List S45) (hl : xs.length < 2 ^ 40) (d : Nat) : ∀ (i : Nat), i + d = xs.length → Ev (fun k => laws_eqBlockS.l0 k xs xs (i : Int)) true := by
  induction d with
  | zero => intro i hi; exact Ev.step (fun k => by simp only [laws_eqBlockS.l0]; rw [if_neg (by omega)]) (Ev.now _)
  | succ d ih =>
    intro i hi
    exact Ev.step (fun k => by
      simp only [laws_eqBlockS.l0, laws_eqBlock.f, if_true, Option.bind_some]
      rw [if_pos (by omega), if_pos (by omega), if_pos (by omega), inc i (by omega)]) (ih (i + 1) (by omega))
theorem eq_blocks (xs : List S45) (hl : xs.length < 2 ^ 40) : Ev (fun k => laws_eqBlockS.f k xs xs) true := by
  unfold laws_eqBlockS.f
  exact evp rfl (eq_blocks_l xs hl xs.length 0 (by omega))

/-- a block's length -/
def szB (x : S45) : Int := (2 : Int) ^ x.f1.toNat
theorem szB_pos (x : S45) : 1 ≤ szB x := by
  unfold szB
  have := Nat.two_pow_pos x.f1.toNat
  have h := pow_cast x.f1.toNat
  omega
def blkB (x : S45) : Bool := blk x.f0 x.f1
theorem blk_iff {x : S45} : blkB x = true ↔ (0 ≤ x.f1 ∧ x.f1 ≤ 8) ∧ (0 ≤ x.f0 ∧ x.f0 ≤ 1073741824) ∧ Int.tmod x.f0 (2 ^ x.f1.toNat) = 0 := by
  unfold blkB blk
  rw [Bool.and_eq_true, Bool.and_eq_true, decide_eq_true_eq, decide_eq_true_eq, beq_iff_eq]
theorem pow_le8 (n : Nat) (h : n ≤ 8) : (2 : Int) ^ n ≤ 256 := by
  rw [← pow_cast]
  have := Nat.pow_le_pow_right (show 0 < 2 by omega) h
  omega
theorem szB_le {x : S45} (h : blkB x = true) : szB x ≤ 256 := by
  have := (blk_iff.mp h).1
  exact pow_le8 _ (by omega)
/-- blocks that follow each other without gap, from a on: where they end -/
def tile : Int → List S45 → Option Int
  | a, [] => some a
  | a, x :: l => if blkB x = true ∧ x.f0 = a then tile (a + szB x) l else none
/-- blocks that rise, from p on, within so many bytes -/
def chainB (B : Int) : Int → List S45 → Bool
  | _, [] => true
  | p, x :: l => (blkB x && decide (p ≤ x.f0 ∧ x.f0 + szB x ≤ B)) && chainB B (x.f0 + szB x) l
def sumB : List S45 → Int
  | [] => 0
  | x :: l => szB x + sumB l
theorem sumB_nonneg : ∀ l : List S45, 0 ≤ sumB l
  | [] => Int.le_refl 0
  | x :: l => by have := sumB_nonneg l; have := szB_pos x; rw [sumB]; omega
theorem sumB_append : ∀ l m : List S45, sumB (l ++ m) = sumB l + sumB m
  | [], m => by rw [List.nil_append, sumB]; omega
  | x :: l, m => by rw [List.cons_append, sumB, sumB, sumB_append l m]; omega
theorem sumB_perm {l m : List S45} (h : List.Perm l m) : sumB l = sumB m := by
  induction h with
  | nil => rfl
  | cons x _ ih => rw [sumB, sumB, ih]
  | swap x y l => rw [sumB, sumB, sumB, sumB]; omega
  | trans _ _ h1 h2 => exact h1.trans h2
theorem chainB_cons {B p : Int} {x : S45} {l : List S45} (h : chainB B p (x :: l) = true) : blkB x = true ∧ (p ≤ x.f0 ∧ x.f0 + szB x ≤ B) ∧ chainB B (x.f0 + szB x) l = true := by
  rw [chainB, Bool.and_eq_true, Bool.and_eq_true, decide_eq_true_eq] at h
  exact ⟨h.1.1, h.1.2, h.2⟩
theorem chainB_mk {B p : Int} {x : S45} {l : List S45} (h1 : blkB x = true) (h2 : p ≤ x.f0 ∧ x.f0 + szB x ≤ B) (h3 : chainB B (x.f0 + szB x) l = true) : chainB B p (x :: l) = true := by
  rw [chainB, Bool.and_eq_true, Bool.and_eq_true, decide_eq_true_eq]
  exact ⟨⟨h1, h2⟩, h3⟩
theorem chainB_sum {B : Int} : ∀ {l : List S45} {p : Int}, p ≤ B → chainB B p l = true → p + sumB l ≤ B
  | [], p, hp, _ => by rw [sumB]; omega
  | x :: l, p, hp, h => by
    obtain ⟨_, h2, h3⟩ := chainB_cons h
    have := chainB_sum h2.2 h3
    rw [sumB]; omega
theorem chainB_tile {B : Int} : ∀ {l : List S45} {p : Int}, p ≤ B → chainB B p l = true → p + sumB l = B → tile p l = some B
  | [], p, hp, _, h => by rw [sumB] at h; rw [tile]; congr 1; omega
  | x :: l, p, hp, h, hs => by
    obtain ⟨h1, h2, h3⟩ := chainB_cons h
    have := chainB_sum h2.2 h3
    rw [sumB] at hs
    have e : x.f0 = p := by omega
    rw [tile, if_pos ⟨h1, e⟩, ← e]
    exact chainB_tile h2.2 h3 (by omega)
theorem tile_cons {p : Int} {x : S45} {l : List S45} {r : Int} (h : tile p (x :: l) = some r) : blkB x = true ∧ x.f0 = p ∧ tile (p + szB x) l = some r := by
  rw [tile] at h
  split at h
  · rename_i hc; exact ⟨hc.1, hc.2, h⟩
  · cases h
theorem tile_chain : ∀ {l : List S45} {p r : Int}, tile p l = some r → chainB r p l = true ∧ p + sumB l = r
  | [], p, r, h => by
    rw [tile] at h
    obtain rfl := Option.some.inj h
    exact ⟨rfl, by rw [sumB]; omega⟩
  | x :: l, p, r, h => by
    obtain ⟨h1, h2, h3⟩ := tile_cons h
    obtain ⟨i1, i2⟩ := tile_chain h3
    have := sumB_nonneg l
    refine ⟨chainB_mk h1 ⟨by omega, by omega⟩ (by rw [h2]; exact i1), by rw [sumB]; omega⟩
/-- all blocks of a chain lie apart and rise -/
def aheadB (x y : S45) : Prop := x.f0 + szB x ≤ y.f0
theorem chainB_low {B : Int} : ∀ {l : List S45} {p : Int}, chainB B p l = true → ∀ y ∈ l, p ≤ y.f0 ∧ y.f0 + szB y ≤ B ∧ blkB y = true
  | [], _, _, y, hy => by cases hy
  | x :: l, p, h, y, hy => by
    obtain ⟨h1, h2, h3⟩ := chainB_cons h
    rcases List.mem_cons.mp hy with rfl | hy
    · exact ⟨h2.1, h2.2, h1⟩
    · have h4 := chainB_low h3 y hy
      have := szB_pos x
      exact ⟨by omega, h4.2.1, h4.2.2⟩
theorem chainB_pair {B : Int} : ∀ {l : List S45} {p : Int}, chainB B p l = true → List.Pairwise aheadB l
  | [], _, _ => List.Pairwise.nil
  | x :: l, p, h => by
    obtain ⟨_, _, h3⟩ := chainB_cons h
    exact List.Pairwise.cons (fun y hy => (chainB_low h3 y hy).1) (chainB_pair h3)
theorem pair_chainB {B : Int} : ∀ {l : List S45} {p : Int}, List.Pairwise aheadB l → (∀ y ∈ l, p ≤ y.f0 ∧ y.f0 + szB y ≤ B ∧ blkB y = true) → chainB B p l = true
  | [], _, _, _ => rfl
  | x :: l, p, h, hy => by
    have hx := hy x List.mem_cons_self
    refine chainB_mk hx.2.2 ⟨hx.1, hx.2.1⟩ (pair_chainB (List.Pairwise.of_cons h) (fun y hyl => ?_))
    have := hy y (List.mem_cons_of_mem _ hyl)
    exact ⟨List.rel_of_pairwise_cons h hyl, this.2⟩
/-- two blocks lie apart -/
def apartB (x y : S45) : Prop := x.f0 + szB x ≤ y.f0 ∨ y.f0 + szB y ≤ x.f0
theorem apartB_symm {x y : S45} (h : apartB x y) : apartB y x := h.symm
def riseB (x y : S45) : Prop := x.f0 < y.f0
theorem apart_ahead {l : List S45} (h1 : List.Pairwise apartB l) (h2 : List.Pairwise (fun x y => x.f0 ≤ y.f0) l) : List.Pairwise aheadB l := by
  refine (List.Pairwise.and h1 h2).imp (fun {x y} h => ?_)
  have := szB_pos x
  have := szB_pos y
  rcases h.1 with h3 | h3
  · exact h3
  · have := h.2; omega
/-- what both say of a list of blocks, sorted, and of two lists of which it is made -/
theorem tile_iff {B : Int} (hB : 0 ≤ B) {fr us s : List S45} (hp : List.Perm s (fr ++ us)) (hs : List.Pairwise (fun x y => x.f0 ≤ y.f0) s) :
    (List.Pairwise riseB fr ∧ List.Pairwise riseB us ∧ tile 0 s = some B) ↔ (chainB B 0 fr = true ∧ chainB B 0 us = true ∧ sumB fr + sumB us = B ∧ ∀ x ∈ fr, ∀ y ∈ us, apartB x y) := by
  constructor
  · rintro ⟨hf, hu, ht⟩
    obtain ⟨c1, c2⟩ := tile_chain ht
    have hap : List.Pairwise apartB s := (chainB_pair c1).imp (fun h => Or.inl h)
    have hap2 : List.Pairwise apartB (fr ++ us) := hp.pairwise hap (fun h => apartB_symm h)
    obtain ⟨pf, pu, px⟩ := List.pairwise_append.mp hap2
    have hlow : ∀ y ∈ fr ++ us, 0 ≤ y.f0 ∧ y.f0 + szB y ≤ B ∧ blkB y = true := fun y hy => chainB_low c1 y (hp.mem_iff.mpr hy)
    refine ⟨pair_chainB (apart_ahead pf (hf.imp (fun h => Int.le_of_lt h))) (fun y hy => hlow y (List.mem_append_left _ hy)), pair_chainB (apart_ahead pu (hu.imp (fun h => Int.le_of_lt h))) (fun y hy => hlow y (List.mem_append_right _ hy)), ?_, px⟩
    rw [← sumB_append, ← sumB_perm hp]
    omega
  · rintro ⟨cf, cu, hsum, hx⟩
    have pf := chainB_pair cf
    have pu := chainB_pair cu
    have hap2 : List.Pairwise apartB (fr ++ us) := List.pairwise_append.mpr ⟨pf.imp (fun h => Or.inl h), pu.imp (fun h => Or.inl h), hx⟩
    have hap : List.Pairwise apartB s := hp.symm.pairwise hap2 (fun h => apartB_symm h)
    have hlow : ∀ y ∈ s, 0 ≤ y.f0 ∧ y.f0 + szB y ≤ B ∧ blkB y = true := fun y hy => by
      rcases List.mem_append.mp (hp.mem_iff.mp hy) with h | h
      · exact chainB_low cf y h
      · exact chainB_low cu y h
    have rise : ∀ {l : List S45}, List.Pairwise aheadB l → List.Pairwise riseB l := fun h => h.imp (fun {x y} h => by have := szB_pos x; unfold aheadB at h; unfold riseB; omega)
    refine ⟨rise pf, rise pu, chainB_tile hB (pair_chainB (apart_ahead hap hs) hlow) ?_⟩
    rw [sumB_perm hp, sumB_append]
    omega

/-! ### A buddy's list of blocks: what both say of it -/
theorem getb (l : List S45) (i : Nat) (h : i < l.length) : l.getD i z45 = l[i] := by rw [List.getD_eq_getElem?_getD, List.getElem?_eq_getElem h]; rfl
theorem szB_shl {x : S45} (h : blkB x = true) : shl .i64 1 (IntKind.u64.wrap x.f1) = szB x ∧ 0 ≤ IntKind.u64.wrap x.f1 ∧ 0 ≤ x.f1 := by
  have h1 := (blk_iff.mp h).1
  obtain ⟨n, hn⟩ := Int.eq_ofNat_of_zero_le h1.1
  unfold szB
  rw [hn, u64_small _ (by omega) (by omega), shl_sz n (by omega), Int.toNat_natCast, pow_cast]
  exact ⟨rfl, by omega, by omega⟩
theorem szB_shl' {x : S45} (h : blkB x = true) : shl .i64 1 x.f1 = szB x := by
  have h1 := (blk_iff.mp h).1
  obtain ⟨n, hn⟩ := Int.eq_ofNat_of_zero_le h1.1
  unfold szB
  rw [hn, shl_sz n (by omega), Int.toNat_natCast, pow_cast]
theorem spec_list_l (l : List S45) (hl : l.length < 2 ^ 40) (B : Int) (hB0 : 0 ≤ B) (hB1 : B ≤ 256) (d : Nat) : ∀ (i : Nat) (S p : Int), i + d = l.length → 0 ≤ S → S ≤ 256 * (i : Int) →
    (i = 0 ∧ p = 0 ∨ 0 < i ∧ blkB (l.getD (i - 1) z45) = true ∧ p = (l.getD (i - 1) z45).f0 + szB (l.getD (i - 1) z45)) →
    Ev (fun k => spec_l6List.l0 k l B S l (l.length : Int) (i : Int)) (if chainB B p (l.drop i) = true then (S + sumB (l.drop i), true) else (0, false)) := by
  induction d with
  | zero =>
    intro i S p hi _ _ _
    rw [List.drop_eq_nil_of_le (by omega), chainB, if_pos rfl, sumB, Int.add_zero]
    exact Ev.step (fun k => by simp only [spec_l6List.l0]; rw [if_neg (by omega)]) (Ev.now _)
  | succ d ih =>
    intro i S p hi h0 h1 hp
    have hlt : i < l.length := by omega
    rw [List.drop_eq_getElem_cons hlt, chainB, sumB]
    have hg := getb l i hlt
    refine Ev.step (fun k => by simp only [spec_l6List.l0]; rw [if_pos (by omega), if_pos (by omega), if_pos (by omega), rd_block, hg, spec_block_tells]) (ev_some ?_)
    show Ev (fun k => if blkB l[i] = true then _ else _) _
    cases hb : blkB l[i] with
    | false => exact evn (by decide) (by rw [Bool.false_and, Bool.false_and, if_neg (by decide)]; exact Ev.now _)
    | true =>
      obtain ⟨s1, s2, _⟩ := szB_shl hb
      have q1 := szB_pos l[i]
      have q2 := szB_le hb
      have q3 := (blk_iff.mp hb).2.1
      rw [Bool.true_and]
      refine evp rfl (evp s2 ?_)
      rw [s1]
      have w1 : wrap64 (B - szB l[i]) = B - szB l[i] := by unfold wrap64; omega
      have w2 : wrap64 (S + szB l[i]) = S + szB l[i] := by unfold wrap64; omega
      rw [w1, w2]
      by_cases h2 : (l[i]).f0 + szB l[i] ≤ B
      · refine evn (by omega) ?_
        have go := ih (i + 1) (S + szB l[i]) ((l[i]).f0 + szB l[i]) (by omega) (by omega) (by omega) (Or.inr ⟨by omega, by rw [Nat.add_sub_cancel, hg]; exact hb, by rw [Nat.add_sub_cancel, hg]⟩)
        rw [Int.add_assoc] at go
        rcases hp with ⟨rfl, rfl⟩ | ⟨hpos, hpb, rfl⟩
        · refine evn (by omega) ?_
          simp only [show decide ((0 : Int) ≤ (l[0]).f0 ∧ (l[0]).f0 + szB l[0] ≤ B) = true from decide_eq_true ⟨q3.1, h2⟩, Bool.true_and]
          rw [inc 0 (by omega)]
          exact go
        · have w3 : wrap64 ((i : Int) - 1) = ((i - 1 : Nat) : Int) := by unfold wrap64; omega
          obtain ⟨r1, r2, _⟩ := szB_shl hpb
          have q4 := szB_pos (l.getD (i - 1) z45)
          have q5 := szB_le hpb
          have q6 := (blk_iff.mp hpb).2.1
          rw [w3, rd_block]
          refine evp (by omega) (evp (by omega) (evp (by omega) (evp r2 ?_)))
          rw [r1]
          have w4 : wrap64 ((l.getD (i - 1) z45).f0 + szB (l.getD (i - 1) z45)) = (l.getD (i - 1) z45).f0 + szB (l.getD (i - 1) z45) := by unfold wrap64; omega
          rw [w4]
          by_cases h3 : (l.getD (i - 1) z45).f0 + szB (l.getD (i - 1) z45) ≤ (l[i]).f0
          · refine evn (by omega) ?_
            rw [decide_eq_true (show (l.getD (i - 1) z45).f0 + szB (l.getD (i - 1) z45) ≤ (l[i]).f0 ∧ (l[i]).f0 + szB l[i] ≤ B by omega), Bool.true_and, inc i (by omega)]
            exact go
          · refine evp (by omega) ?_
            rw [decide_eq_false (fun h => h3 h.1), Bool.false_and, if_neg (by decide)]
            exact Ev.now _
      · refine evp (by omega) ?_
        rw [decide_eq_false (fun h => h2 h.2), Bool.false_and, if_neg (by decide)]
        exact Ev.now _
theorem spec_list (l : List S45) (hl : l.length < 2 ^ 40) (B : Int) (hB0 : 0 ≤ B) (hB1 : B ≤ 256) : Ev (fun k => spec_l6List.f k l B) (if chainB B 0 l = true then (sumB l, true) else (0, false)) := by
  have := spec_list_l l hl B hB0 hB1 l.length 0 0 0 (by omega) (by omega) (by omega) (Or.inl ⟨rfl, rfl⟩)
  rw [List.drop_zero, Int.zero_add] at this
  exact this
/-- is there such a block -/
def inB (l : List S45) (a o : Int) : Bool := l.any fun y => (y.f0 == a) && (y.f1 == o)
theorem spec_at_l (l : List S45) (hl : l.length < 2 ^ 40) (a o : Int) (d : Nat) : ∀ i : Nat, i + d = l.length → ∃ r, Ev (fun k => spec_l6At.l0 k l (l.length : Int) (i : Int) a o) r ∧ decide (r ≥ 0) = inB (l.drop i) a o := by
  induction d with
  | zero =>
    intro i hi
    rw [List.drop_eq_nil_of_le (by omega)]
    exact ⟨-1, Ev.step (fun k => by simp only [spec_l6At.l0]; rw [if_neg (by omega)]) (Ev.now _), rfl⟩
  | succ d ih =>
    intro i hi
    have hlt : i < l.length := by omega
    obtain ⟨r, e, hr⟩ := ih (i + 1) (by omega)
    rw [List.drop_eq_getElem_cons hlt]
    unfold inB at hr ⊢
    rw [List.any_cons]
    cases hc : ((l[i]).f0 == a) && ((l[i]).f1 == o) with
    | true => exact ⟨(i : Int), Ev.step (fun k => by simp only [spec_l6At.l0]; rw [if_pos (by omega), if_pos (by omega), if_pos (by omega), rd_block, getb l i hlt, hc, if_pos rfl]) (Ev.now _), by rw [Bool.true_or]; exact decide_eq_true (by omega)⟩
    | false => exact ⟨r, Ev.step (fun k => by simp only [spec_l6At.l0]; rw [if_pos (by omega), if_pos (by omega), if_pos (by omega), rd_block, getb l i hlt, hc, if_neg (by decide), inc i (by omega)]) e, by rw [Bool.false_or]; exact hr⟩
theorem impl_has_l (l : List S45) (hl : l.length < 2 ^ 40) (a o : Int) (d : Nat) : ∀ i : Nat, i + d = l.length → ∃ r, Ev (fun k => impl_Block_61.l0 k l (l.length : Int) (i : Int) a o) r ∧ decide (r ≥ 0) = inB (l.drop i) a o := by
  induction d with
  | zero =>
    intro i hi
    rw [List.drop_eq_nil_of_le (by omega)]
    exact ⟨-1, Ev.step (fun k => by simp only [impl_Block_61.l0]; rw [if_neg (by omega)]) (Ev.now _), rfl⟩
  | succ d ih =>
    intro i hi
    have hlt : i < l.length := by omega
    obtain ⟨r, e, hr⟩ := ih (i + 1) (by omega)
    rw [List.drop_eq_getElem_cons hlt]
    unfold inB at hr ⊢
    rw [List.any_cons]
    have hsw : ((a == (l[i]).f0) && (o == (l[i]).f1)) = (((l[i]).f0 == a) && ((l[i]).f1 == o)) := by rw [Bool.beq_comm (a := a), Bool.beq_comm (a := o)]
    cases hc : ((l[i]).f0 == a) && ((l[i]).f1 == o) with
    | true => exact ⟨(i : Int), Ev.step (fun k => by simp only [impl_Block_61.l0]; rw [if_pos (by omega), if_pos (by omega), if_pos (by omega), rd_block, getb l i hlt, hsw, hc, if_pos rfl]) (Ev.now _), by rw [Bool.true_or]; exact decide_eq_true (by omega)⟩
    | false => exact ⟨r, Ev.step (fun k => by simp only [impl_Block_61.l0]; rw [if_pos (by omega), if_pos (by omega), if_pos (by omega), rd_block, getb l i hlt, hsw, hc, if_neg (by decide), inc i (by omega)]) e, by rw [Bool.false_or]; exact hr⟩
theorem impl_has (l : List S45) (hl : l.length < 2 ^ 40) (a o : Int) : Ev (fun k => impl_Block_37.f k l a o) (inB l a o) := by
  obtain ⟨r, e, hr⟩ := impl_has_l l hl a o l.length 0 (by omega)
  rw [List.drop_zero] at hr
  unfold impl_Block_37.f
  rw [← hr]
  exact Ev.bind e (Ev.now _)
/-- two blocks apart, as a test -/
def apB (x y : S45) : Bool := decide (x.f0 + szB x ≤ y.f0 ∨ y.f0 + szB y ≤ x.f0)
theorem spec_apart (x48 : List S45) (L i ord : Int) (fr us : List S45) (hl : us.length < 2 ^ 40) (hus : ∀ y ∈ us, blkB y = true) (x : S45) (hx : blkB x = true) (R : Bool) (hR : Ev (fun k => spec_GoodBuddy.l0 k x48 L (wrap64 (i + 1)) ord fr us) R) (d : Nat) : ∀ j : Nat, j + d = us.length →
    Ev (fun k => spec_GoodBuddy.l1 k x48 L i us (us.length : Int) (j : Int) ord fr us x.f0 x.f1) ((us.drop j).all (apB x) && R) := by
  obtain ⟨s1, s2, _⟩ := szB_shl hx
  have q1 := szB_pos x
  have q2 := szB_le hx
  have q3 := (blk_iff.mp hx).2.1
  induction d with
  | zero =>
    intro j hj
    rw [List.drop_eq_nil_of_le (by omega), List.all_nil, Bool.true_and]
    exact Ev.step (fun k => by simp only [spec_GoodBuddy.l1]; rw [if_neg (by omega)]) hR
  | succ d ih =>
    intro j hj
    have hlt : j < us.length := by omega
    have hy := hus _ (List.getElem_mem hlt)
    obtain ⟨r1, r2, _⟩ := szB_shl hy
    have q4 := szB_pos us[j]
    have q5 := szB_le hy
    have q6 := (blk_iff.mp hy).2.1
    have w1 : wrap64 ((us[j]).f0 + szB us[j]) = (us[j]).f0 + szB us[j] := by unfold wrap64; omega
    have w2 : wrap64 (x.f0 + szB x) = x.f0 + szB x := by unfold wrap64; omega
    rw [List.drop_eq_getElem_cons hlt, List.all_cons]
    refine Ev.step (fun k => by simp only [spec_GoodBuddy.l1]; rw [if_pos (by omega), if_pos (by omega), if_pos (by omega), rd_block, getb us j hlt, if_pos r2, r1, s1, w1, w2, inc j (by omega)]) ?_
    have go := ih (j + 1) (by omega)
    by_cases h1 : x.f0 < (us[j]).f0 + szB us[j]
    · refine evp h1 (evp s2 ?_)
      by_cases h2 : (us[j]).f0 < x.f0 + szB x
      · rw [show apB x us[j] = false from decide_eq_false (by omega), Bool.false_and, Bool.false_and]
        exact evp h2 (Ev.now _)
      · rw [show apB x us[j] = true from decide_eq_true (by omega), Bool.true_and]
        exact evn h2 go
    · rw [show apB x us[j] = true from decide_eq_true (by omega), Bool.true_and]
      exact evn h1 go
theorem spec_free (ord : Int) (fr us : List S45) (hlf : fr.length < 2 ^ 40) (hlu : us.length < 2 ^ 40) (hfr : ∀ x ∈ fr, blkB x = true) (hus : ∀ y ∈ us, blkB y = true) (d : Nat) : ∀ i : Nat, i + d = fr.length →
    Ev (fun k => spec_GoodBuddy.l0 k fr (fr.length : Int) (i : Int) ord fr us) ((fr.drop i).all fun x => !(decide (x.f1 < ord) && inB fr (bud x.f0 x.f1) x.f1) && us.all (apB x)) := by
  induction d with
  | zero =>
    intro i hi
    rw [List.drop_eq_nil_of_le (by omega), List.all_nil]
    exact Ev.step (fun k => by simp only [spec_GoodBuddy.l0]; rw [if_neg (by omega)]) (Ev.now _)
  | succ d ih =>
    intro i hi
    have hlt : i < fr.length := by omega
    have hx := hfr _ (List.getElem_mem hlt)
    have go := ih (i + 1) (by omega)
    rw [← inc i (by omega)] at go
    have ap := spec_apart fr (fr.length : Int) (i : Int) ord fr us hlu hus fr[i] hx _ go us.length 0 (by omega)
    rw [List.drop_zero, show ((0 : Nat) : Int) = 0 from rfl] at ap
    rw [List.drop_eq_getElem_cons hlt, List.all_cons]
    refine Ev.step (fun k => by simp only [spec_GoodBuddy.l0]; rw [if_pos (by omega), if_pos (by omega), if_pos (by omega), rd_block, getb fr i hlt]) ?_
    have hf : Ev (fun k => spec_GoodBuddy.j2 k fr (fr.length : Int) (i : Int) false ord fr us (fr[i]).f0 (fr[i]).f1) (us.all (apB fr[i]) && (fr.drop (i + 1)).all fun x => !(decide (x.f1 < ord) && inB fr (bud x.f0 x.f1) x.f1) && us.all (apB x)) := Ev.step (fun k => by simp only [spec_GoodBuddy.j2]; rw [if_neg (by decide)]) ap
    by_cases h1 : (fr[i]).f1 < ord
    · rw [decide_eq_true h1, Bool.true_and]
      refine evp h1 (ev_to_some (spec_buddy_tells _ _ (blk_iff.mp hx).1.1 (blk_iff.mp hx).1.2) ?_)
      obtain ⟨r, e, hr⟩ := spec_at_l fr hlf (bud (fr[i]).f0 (fr[i]).f1) (fr[i]).f1 fr.length 0 (by omega)
      rw [List.drop_zero] at hr
      refine Ev.bind e ?_
      rw [hr]
      cases inB fr (bud (fr[i]).f0 (fr[i]).f1) (fr[i]).f1 with
      | true => rw [Bool.not_true, Bool.false_and, Bool.false_and]; exact Ev.step (fun k => by simp only [spec_GoodBuddy.j2]; rw [if_pos True.intro]) (Ev.now _)
      | false => exact hf
    · rw [decide_eq_false h1]
      exact evn h1 hf
/-- the spec's answer -/
def goodB (ord : Int) (fr us : List S45) : Bool := decide (0 ≤ ord ∧ ord ≤ 8) && ((chainB (2 ^ ord.toNat) 0 fr && chainB (2 ^ ord.toNat) 0 us && decide (sumB fr + sumB us = 2 ^ ord.toNat)) && fr.all fun x => !(decide (x.f1 < ord) && inB fr (bud x.f0 x.f1) x.f1) && us.all (apB x))
theorem spec_goodB (ord : Int) (fr us : List S45) (hlf : fr.length < 2 ^ 40) (hlu : us.length < 2 ^ 40) : Ev (fun k => spec_GoodBuddy.f k ord fr us) (goodB ord fr us) := by
  unfold spec_GoodBuddy.f goodB
  rw [l1In_tells]
  refine ev_some ?_
  by_cases ho : 0 ≤ ord ∧ ord ≤ 8
  · simp only [show decide (ord ≥ 0 ∧ ord ≤ 8) = true from decide_eq_true ho, show decide (0 ≤ ord ∧ ord ≤ 8) = true from decide_eq_true ho, Bool.true_and]
    obtain ⟨n, rfl⟩ := Int.eq_ofNat_of_zero_le ho.1
    refine evp trivial ?_
    rw [u64_small _ (by omega) (by omega), shl_sz n (by omega), pow_cast, Int.toNat_natCast]
    have hp := pow_le8 n (by omega)
    have hp1 : (1 : Int) ≤ 2 ^ n := by have := Nat.two_pow_pos n; rw [← pow_cast]; omega
    generalize (2 : Int) ^ n = B at hp hp1
    have e1 := spec_list fr hlf B (by omega) hp
    have e2 := spec_list us hlu B (by omega) hp
    have no : Ev (fun k => spec_GoodBuddy.j0 k true (n : Int) fr us) false := Ev.step (fun k => by simp only [spec_GoodBuddy.j0]; rw [if_pos True.intro]) (Ev.now _)
    refine evp (by omega) (Ev.bind e1 (Ev.bind e2 ?_))
    cases c1 : chainB B 0 fr with
    | false => rw [if_neg (by decide), Bool.false_and, Bool.false_and, Bool.false_and]; exact evn (by decide) no
    | true =>
      rw [if_pos rfl, Bool.true_and]
      refine evp rfl ?_
      cases c2 : chainB B 0 us with
      | false => rw [if_neg (by decide), Bool.false_and, Bool.false_and]; exact evn (by decide) no
      | true =>
        rw [if_pos rfl, Bool.true_and]
        refine evp rfl ?_
        have b1 := chainB_sum (show (0 : Int) ≤ B by omega) c1
        have b2 := chainB_sum (show (0 : Int) ≤ B by omega) c2
        have b3 := sumB_nonneg fr
        have b4 := sumB_nonneg us
        show Ev (fun k => spec_GoodBuddy.j0 k ((wrap64 (sumB fr + sumB us)) != B) (n : Int) fr us) _
        rw [show wrap64 (sumB fr + sumB us) = sumB fr + sumB us by unfold wrap64; omega]
        by_cases hs : sumB fr + sumB us = B
        · rw [decide_eq_true hs, Bool.true_and, hs, bne_self_eq_false]
          refine Ev.step (fun k => by simp only [spec_GoodBuddy.j0]; rw [if_neg (by decide)]) ?_
          have := spec_free (n : Int) fr us hlf hlu (fun x hx => (chainB_low c1 x hx).2.2) (fun x hx => (chainB_low c2 x hx).2.2) fr.length 0 (by omega)
          rw [List.drop_zero] at this
          exact this
        · rw [decide_eq_false hs, Bool.false_and, bne_iff_ne.mpr hs]
          exact no
  · simp only [show decide (ord ≥ 0 ∧ ord ≤ 8) = false from decide_eq_false ho, show decide (0 ≤ ord ∧ ord ≤ 8) = false from decide_eq_false ho, Bool.false_and]
    exact evn (by decide) (Ev.now _)
/-- rising, as a test of neighbours -/
def riseL : List S45 → Bool
  | [] => true
  | [_] => true
  | x :: y :: l => decide (x.f0 < y.f0) && riseL (y :: l)
theorem riseL_iff : ∀ l : List S45, riseL l = true ↔ List.Pairwise riseB l
  | [] => ⟨fun _ => List.Pairwise.nil, fun _ => rfl⟩
  | [x] => ⟨fun _ => List.pairwise_singleton _ _, fun _ => rfl⟩
  | x :: y :: l => by
    have ih := riseL_iff (y :: l)
    rw [riseL, Bool.and_eq_true, decide_eq_true_eq, ih]
    constructor
    · rintro ⟨h1, h2⟩
      refine List.Pairwise.cons (fun z hz => ?_) h2
      rcases List.mem_cons.mp hz with rfl | hz
      · exact h1
      · have := List.rel_of_pairwise_cons h2 hz
        unfold riseB at this ⊢; omega
    · intro h
      exact ⟨List.rel_of_pairwise_cons h List.mem_cons_self, List.Pairwise.of_cons h⟩
theorem impl_rise_l (l : List S45) (hl : l.length < 2 ^ 40) (d : Nat) : ∀ i : Nat, i + d = l.length → 1 ≤ i → Ev (fun k => impl_isRising.l0 k l (i : Int)) (riseL (l.drop (i - 1))) := by
  induction d with
  | zero =>
    intro i hi h1
    have hlt : i - 1 < l.length := by omega
    rw [List.drop_eq_getElem_cons hlt, List.drop_eq_nil_of_le (by omega)]
    exact Ev.step (fun k => by simp only [impl_isRising.l0]; rw [if_neg (by omega)]; rfl) (Ev.now _)
  | succ d ih =>
    intro i hi h1
    have hlt : i < l.length := by omega
    have hlt2 : i - 1 < l.length := by omega
    have go := ih (i + 1) (by omega) (by omega)
    rw [Nat.add_sub_cancel, List.drop_eq_getElem_cons hlt] at go
    have e : l.drop (i - 1) = l[i - 1] :: l[i] :: l.drop (i + 1) := by
      rw [List.drop_eq_getElem_cons hlt2, show i - 1 + 1 = i by omega, List.drop_eq_getElem_cons hlt]
    have w1 : wrap64 ((i : Int) - 1) = ((i - 1 : Nat) : Int) := by unfold wrap64; omega
    rw [e, riseL]
    refine Ev.step (fun k => by simp only [impl_isRising.l0]; rw [if_pos (by omega), if_pos (by omega), w1, if_pos (by omega), if_pos (by omega), rd_block, rd_block, getb l i hlt, getb l (i - 1) hlt2, inc i (by omega)]) ?_
    by_cases h : (l[i - 1]).f0 < (l[i]).f0
    · rw [decide_eq_true h, Bool.true_and]
      exact evn (by omega) go
    · rw [decide_eq_false h, Bool.false_and]
      exact evp (by omega) (Ev.now _)
theorem impl_rise (l : List S45) (hl : l.length < 2 ^ 40) : Ev (fun k => impl_isRising.f k l) (riseL l) := by
  unfold impl_isRising.f
  cases l with
  | nil => exact Ev.step (fun k => by simp only [impl_isRising.l0]; rw [if_neg (by simp)]; rfl) (Ev.now _)
  | cons x l =>
    have := impl_rise_l (x :: l) hl l.length 1 (by simp only [List.length_cons]; omega) (by omega)
    exact this
theorem ev_buds (fr : List S45) (hl : fr.length < 2 ^ 40) : ∀ l : List S45, (∀ x ∈ l, blkB x = true) → Ev (fun k => if (l.all fun x => (budB k fr x).isSome) = true then some (l.any fun x => (budB k fr x).getD false) else none) (l.any fun x => inB fr (bud x.f0 x.f1) x.f1)
  | [], _ => Ev.congr (fun _ => rfl) (Ev.now _)
  | x :: l, h => by
    obtain ⟨K1, h1⟩ := ev_buds fr hl l (fun y hy => h y (List.mem_cons_of_mem _ hy))
    have hx := h x List.mem_cons_self
    obtain ⟨K2, h2⟩ := impl_has fr hl (bud x.f0 x.f1) x.f1
    refine ⟨K1 + K2, fun k hk => ?_⟩
    have g1 : (if (l.all fun x => (budB k fr x).isSome) = true then some (l.any fun x => (budB k fr x).getD false) else none) = some (l.any fun x => inB fr (bud x.f0 x.f1) x.f1) := h1 k (by omega)
    have g2 : budB k fr x = some (inB fr (bud x.f0 x.f1) x.f1) := by
      unfold budB
      rw [impl_buddy_tells _ _ (blk_iff.mp hx).1.1 (blk_iff.mp hx).1.2]
      exact h2 k (by omega)
    simp only [List.all_cons, List.any_cons, g2, Option.isSome_some, Bool.true_and, Option.getD_some]
    split at g1
    · rename_i hc
      rw [if_pos hc, Option.some.inj g1]
    · cases g1
theorem impl_buds (fr : List S45) (hl : fr.length < 2 ^ 40) (h : ∀ x ∈ fr, blkB x = true) : Ev (fun k => impl_Block_53.f k fr fr) (fr.any fun x => inB fr (bud x.f0 x.f1) x.f1) := by
  unfold impl_Block_53.f
  exact ev_buds fr hl fr h
theorem impl_tile (s : List S45) (hl : s.length < 2 ^ 40) (n : Nat) (hn : n ≤ 8) (fr us : List S45) (v : Bool) (hv : tile 0 s = some (2 ^ n) → Ev (fun k => impl_Block_53.f k fr fr) v) (d : Nat) : ∀ (i : Nat) (a : Int), i + d = s.length → 0 ≤ a → a ≤ 2 ^ 31 → tile 0 s = tile a (s.drop i) →
    Ev (fun k => impl_GoodBuddy.l0 k a s (s.length : Int) (i : Int) (n : Int) fr us) (decide (tile a (s.drop i) = some (2 ^ n)) && !v) := by
  induction d with
  | zero =>
    intro i a hi h0 h1 ht
    rw [List.drop_eq_nil_of_le (by omega), tile] at ht ⊢
    refine Ev.step (fun k => by simp only [impl_GoodBuddy.l0]; rw [if_neg (by omega), if_pos (by omega), shl_sz n hn, pow_cast]) ?_
    by_cases h : a = 2 ^ n
    · rw [decide_eq_true (by rw [h]), Bool.true_and]
      exact evp h (Ev.bind (hv (by rw [ht, h])) (Ev.now _))
    · rw [decide_eq_false (fun e => h (Option.some.inj e)), Bool.false_and]
      exact evn h (Ev.now _)
  | succ d ih =>
    intro i a hi h0 h1 ht
    have hlt : i < s.length := by omega
    rw [List.drop_eq_getElem_cons hlt, tile] at ht ⊢
    refine Ev.step (fun k => by simp only [impl_GoodBuddy.l0]; rw [if_pos (by omega), if_pos (by omega), if_pos (by omega), rd_block, getb s i hlt, impl_block_tells]) (ev_some ?_)
    show Ev (fun k => if blkB s[i] = true then _ else _) _
    cases hb : blkB s[i] with
    | false =>
      rw [if_neg (fun h => by cases h.1), decide_eq_false (by simp), Bool.false_and]
      exact evn (by decide) (Ev.now _)
    | true =>
      refine evp rfl ?_
      by_cases hc : (s[i]).f0 = a
      · rw [hb, if_pos ⟨rfl, hc⟩] at ht
        rw [if_pos ⟨rfl, hc⟩]
        have q1 := szB_pos s[i]
        have q2 := szB_le hb
        have q3 := (blk_iff.mp hb).2.1
        have hsz : impl_Block_size.f (s[i]).f0 (s[i]).f1 = some (szB s[i]) := by
          unfold impl_Block_size.f
          rw [if_pos (blk_iff.mp hb).1.1, szB_shl' hb]
        refine evp hc (ev_to_some hsz ?_)
        rw [show wrap64 (a + szB s[i]) = a + szB s[i] by unfold wrap64; omega, inc i (by omega)]
        exact ih (i + 1) (a + szB s[i]) (by omega) (by omega) (by omega) ht
      · rw [if_neg (fun h => hc h.2), decide_eq_false (by simp), Bool.false_and]
        exact evn hc (Ev.now _)
theorem bud_top (n : Nat) (hn : n ≤ 8) : bud 0 (n : Int) = 2 ^ n := by
  unfold bud
  rw [Int.toNat_natCast, ← pow_cast]
  have : ∀ o : Nat, o ≤ 8 → Go.bits .xor .i64 0 ((2 ^ o : Nat) : Int) = ((2 ^ o : Nat) : Int) := by
    intro o ho
    match o, ho with
    | 0, _ => rfl
    | 1, _ => rfl
    | 2, _ => rfl
    | 3, _ => rfl
    | 4, _ => rfl
    | 5, _ => rfl
    | 6, _ => rfl
    | 7, _ => rfl
    | 8, _ => rfl
  exact this n hn
theorem pow_mono {a b : Nat} (h : a ≤ b) : (2 : Int) ^ a ≤ 2 ^ b := by
  rw [← pow_cast, ← pow_cast]
  have := Nat.pow_le_pow_right (show 0 < 2 by omega) h
  omega
/-- a block that is no smaller than the whole has no buddy inside -/
theorem no_bud {n : Nat} (hn : n ≤ 8) {fr : List S45} (hc : chainB (2 ^ n) 0 fr = true) {x : S45} (hx : x ∈ fr) (ho : ¬ x.f1 < (n : Int)) : inB fr (bud x.f0 x.f1) x.f1 = false := by
  obtain ⟨l1, l2, l3⟩ := chainB_low hc x hx
  obtain ⟨⟨b1, b2⟩, _, _⟩ := blk_iff.mp l3
  obtain ⟨m, hm⟩ := Int.eq_ofNat_of_zero_le b1
  have hsz : szB x = 2 ^ m := by unfold szB; rw [hm, Int.toNat_natCast]
  have h1 := pow_mono (show n ≤ m by omega)
  have h2 : x.f0 = 0 := by omega
  have h3 : m = n := by
    by_cases h : m = n
    · exact h
    · have h4 := pow_mono (show n + 1 ≤ m by omega)
      rw [Int.pow_succ] at h4
      have h5 : (1 : Int) ≤ 2 ^ n := by have := Nat.two_pow_pos n; rw [← pow_cast]; omega
      omega
  unfold inB
  rw [List.any_eq_false]
  intro y hy hyc
  rw [Bool.and_eq_true, beq_iff_eq, beq_iff_eq, h2, hm, h3, bud_top n hn] at hyc
  obtain ⟨k1, k2, k3⟩ := chainB_low hc y hy
  have := szB_pos y
  omega
theorem impl_goodB (ord : Int) (fr us : List S45) (hlf : fr.length < 2 ^ 38) (hlu : us.length < 2 ^ 38) : Ev (fun k => impl_GoodBuddy.f k ord fr us) (goodB ord fr us) := by
  unfold impl_GoodBuddy.f goodB
  rw [within_tells]
  refine ev_some ?_
  by_cases ho : 0 ≤ ord ∧ ord ≤ 8
  · simp only [show decide (ord ≥ 0 ∧ ord ≤ 8) = true from decide_eq_true ho, show decide (0 ≤ ord ∧ ord ≤ 8) = true from decide_eq_true ho, Bool.true_and]
    obtain ⟨n, rfl⟩ := Int.eq_ofNat_of_zero_le ho.1
    have hn : n ≤ 8 := by omega
    refine evp trivial ?_
    rw [Int.toNat_natCast]
    have no : Ev (fun k => impl_GoodBuddy.j0 k true (n : Int) fr us) false := Ev.step (fun k => by simp only [impl_GoodBuddy.j0]; rw [if_pos True.intro]) (Ev.now _)
    have hB : (0 : Int) ≤ 2 ^ n := by have := Nat.two_pow_pos n; rw [← pow_cast]; omega
    obtain ⟨t1, t2, t3⟩ := sortB_told (fr ++ us)
    have ti := tile_iff (B := 2 ^ n) hB t2 t3
    have val : (riseL fr && (riseL us && (decide (tile 0 (sortB (fr ++ us)) = some (2 ^ n)) && !(fr.any fun x => inB fr (bud x.f0 x.f1) x.f1)))) = ((chainB (2 ^ n) 0 fr && chainB (2 ^ n) 0 us && decide (sumB fr + sumB us = 2 ^ n)) && fr.all fun x => !(decide (x.f1 < (n : Int)) && inB fr (bud x.f0 x.f1) x.f1) && us.all (apB x)) := by
      rw [Bool.eq_iff_iff]
      simp only [Bool.and_eq_true, decide_eq_true_eq, riseL_iff, Bool.not_eq_true', List.any_eq_false, List.all_eq_true, Bool.and_eq_false_iff, decide_eq_false_iff_not]
      constructor
      · rintro ⟨r1, r2, r3, r4⟩
        obtain ⟨d1, d2, d3, d4⟩ := ti.mp ⟨r1, r2, r3⟩
        exact ⟨⟨⟨d1, d2⟩, d3⟩, fun x hx => ⟨Or.inr (by simpa using r4 x hx), fun y hy => decide_eq_true (show x.f0 + szB x ≤ y.f0 ∨ y.f0 + szB y ≤ x.f0 from d4 x hx y hy)⟩⟩
      · rintro ⟨⟨⟨d1, d2⟩, d3⟩, d4⟩
        obtain ⟨r1, r2, r3⟩ := ti.mpr ⟨d1, d2, d3, fun x hx y hy => of_decide_eq_true (p := x.f0 + szB x ≤ y.f0 ∨ y.f0 + szB y ≤ x.f0) ((d4 x hx).2 y hy)⟩
        refine ⟨r1, r2, r3, fun x hx => ?_⟩
        rcases (d4 x hx).1 with h | h
        · simpa using no_bud hn d1 hx h
        · simpa using h
    rw [← val]
    refine Ev.bind (impl_rise fr (by omega)) ?_
    cases c1 : riseL fr with
    | false => rw [Bool.false_and]; exact evn (by decide) no
    | true =>
      rw [Bool.true_and]
      refine evp rfl (Ev.bind (impl_rise us (by omega)) ?_)
      cases c2 : riseL us with
      | false => rw [Bool.false_and]; exact no
      | true =>
        rw [Bool.true_and]
        refine Ev.step (fun k => by simp only [impl_GoodBuddy.j0]; rw [if_neg (by decide)]) ?_
        have hcl : impl_Block_35.f fr = some fr := by unfold impl_Block_35.f; rw [if_pos (by omega)]
        refine ev_to_some hcl (evp (by omega) (ev_some ?_))
        have hv : tile 0 (sortB (fr ++ us)) = some (2 ^ n) → Ev (fun k => impl_Block_53.f k fr fr) (fr.any fun x => inB fr (bud x.f0 x.f1) x.f1) := fun ht => impl_buds fr (by omega) (fun x hx => (chainB_low (tile_chain ht).1 x (t2.mem_iff.mpr (List.mem_append_left _ hx))).2.2)
        have := impl_tile (sortB (fr ++ us)) (by rw [t1, List.length_append]; omega) n hn fr us _ hv (sortB (fr ++ us)).length 0 0 (by omega) (by omega) (by omega) (by rw [List.drop_zero])
        rw [List.drop_zero] at this
        exact this
  · simp only [show decide (ord ≥ 0 ∧ ord ≤ 8) = false from decide_eq_false ho, show decide (0 ≤ ord ∧ ord ≤ 8) = false from decide_eq_false ho, Bool.false_and]
    exact evn (by decide) (Ev.step (fun k => by simp only [impl_GoodBuddy.j0]; rw [if_pos True.intro]) (Ev.now _))
theorem sz_buddy (a : Int) (fr us : List S80) (hf : fr.length ≤ maxLen) (hu : us.length ≤ maxLen) : ∃ r, laws_szBuddy.f a fr us 1048576 = some r ∧ (r < 0 ∨ fr.length < 2 ^ 30 ∧ us.length < 2 ^ 30) := by
  have hm := maxLen_lt
  unfold laws_szBuddy.f laws_szBlockS.f
  have w1 : wrap64 (1048576 - (fr.length : Int)) = 1048576 - (fr.length : Int) := by unfold wrap64; omega
  rw [w1]
  by_cases h1 : 1048576 - (fr.length : Int) < 0
  · rw [if_pos h1]; exact ⟨-1, rfl, Or.inl (by omega)⟩
  · rw [if_neg h1, Option.bind_some, if_neg h1]
    have w2 : wrap64 (1048576 - (fr.length : Int) - (us.length : Int)) = 1048576 - (fr.length : Int) - (us.length : Int) := by unfold wrap64; omega
    rw [w2]
    by_cases h2 : 1048576 - (fr.length : Int) - (us.length : Int) < 0
    · rw [if_pos h2]; exact ⟨-1, rfl, Or.inl (by omega)⟩
    · rw [if_neg h2, Option.bind_some, if_neg h2]; exact ⟨_, rfl, Or.inr (by omega)⟩
theorem to_buddy (a : Int) (fr us : List S80) (hf : fr.length < 2 ^ 40) (hu : us.length < 2 ^ 40) : Ev (fun k => laws_toBuddy.f k a fr us) (a, fr.map convBlock, us.map convBlock) :=
  Ev.bind (to_blocks fr hf) (Ev.bind (to_blocks us hu) (Ev.now _))
theorem eq_buddy (a : Int) (fr us : List S45) (hf : fr.length < 2 ^ 40) (hu : us.length < 2 ^ 40) : Ev (fun k => laws_eqBuddy.f k a fr us a fr us) true := by
  unfold laws_eqBuddy.f
  exact evp rfl (Ev.bind (eq_blocks fr hf) (evp rfl (Ev.bind (eq_blocks us hu) (evp rfl (Ev.now _)))))

theorem good_chain {ord : Int} {fr us : List S45} (h : goodB ord fr us = true) : (0 ≤ ord ∧ ord ≤ 8) ∧ chainB (2 ^ ord.toNat) 0 fr = true := by
  unfold goodB at h
  simp only [Bool.and_eq_true, decide_eq_true_eq] at h
  exact ⟨h.1, h.2.1.1.1⟩
def grB : Int → List S45 → Int
  | g, [] => g
  | g, x :: l => grB (if x.f1 > g then x.f1 else g) l
theorem mx_gr (g x : Int) : mx g x = if x > g then x else g := by unfold mx; split <;> (try split) <;> omega
theorem spec_bytes_l (l : List S45) (hl : l.length < 2 ^ 38) (hb : ∀ x ∈ l, blkB x = true) (d : Nat) : ∀ (i : Nat) (S g : Int), i + d = l.length → 0 ≤ S → S ≤ 256 * (i : Int) → Ev (fun k => spec_BytesFree.l0 k S g l (l.length : Int) (i : Int)) (S + sumB (l.drop i), grB g (l.drop i), true) := by
  induction d with
  | zero =>
    intro i S g hi _ _
    rw [List.drop_eq_nil_of_le (by omega), sumB, grB, Int.add_zero]
    exact Ev.step (fun k => by simp only [spec_BytesFree.l0]; rw [if_neg (by omega)]) (Ev.now _)
  | succ d ih =>
    intro i S g hi h0 h1
    have hlt : i < l.length := by omega
    have hx := hb _ (List.getElem_mem hlt)
    obtain ⟨s1, s2, _⟩ := szB_shl hx
    have q1 := szB_pos l[i]
    have q2 := szB_le hx
    have w2 : wrap64 (S + szB l[i]) = S + szB l[i] := by unfold wrap64; omega
    rw [List.drop_eq_getElem_cons hlt, sumB, grB, ← Int.add_assoc]
    refine Ev.step (fun k => by simp only [spec_BytesFree.l0]; rw [if_pos (by omega), if_pos (by omega), if_pos (by omega), rd_block, getb l i hlt, if_pos s2, s1, w2, inc i (by omega)]) ?_
    by_cases hg : (l[i]).f1 > g
    · rw [if_pos hg]
      exact evp hg (ih (i + 1) _ _ (by omega) (by omega) (by omega))
    · rw [if_neg hg]
      exact evn hg (ih (i + 1) _ _ (by omega) (by omega) (by omega))
theorem impl_bytes_l (l : List S45) (hl : l.length < 2 ^ 38) (hb : ∀ x ∈ l, blkB x = true) (d : Nat) : ∀ (i : Nat) (S g : Int), i + d = l.length → 0 ≤ S → S ≤ 256 * (i : Int) → Ev (fun k => impl_BytesFree.l0 k S g l (l.length : Int) (i : Int)) (S + sumB (l.drop i), grB g (l.drop i), true) := by
  induction d with
  | zero =>
    intro i S g hi _ _
    rw [List.drop_eq_nil_of_le (by omega), sumB, grB, Int.add_zero]
    exact Ev.step (fun k => by simp only [impl_BytesFree.l0]; rw [if_neg (by omega)]) (Ev.now _)
  | succ d ih =>
    intro i S g hi h0 h1
    have hlt : i < l.length := by omega
    have hx := hb _ (List.getElem_mem hlt)
    have q1 := szB_pos l[i]
    have q2 := szB_le hx
    have w2 : wrap64 (S + szB l[i]) = S + szB l[i] := by unfold wrap64; omega
    have hsz : impl_Block_size.f (l[i]).f0 (l[i]).f1 = some (szB l[i]) := by
      unfold impl_Block_size.f
      rw [if_pos (blk_iff.mp hx).1.1, szB_shl' hx]
    rw [List.drop_eq_getElem_cons hlt, sumB, grB, ← Int.add_assoc]
    refine Ev.step (fun k => by simp only [impl_BytesFree.l0]; rw [if_pos (by omega), if_pos (by omega), if_pos (by omega), rd_block, getb l i hlt, hsz, Option.bind_some, w2, mx_gr, inc i (by omega)]) ?_
    exact ih (i + 1) _ _ (by omega) (by omega) (by omega)
theorem both_BytesFree (a : Int) (fr us : List S45) (hf : fr.length < 2 ^ 38) (hu : us.length < 2 ^ 38) : ∃ r, Ev (fun k => spec_BytesFree.f k a fr us) r ∧ Ev (fun k => impl_BytesFree.f k a fr us) r := by
  unfold spec_BytesFree.f impl_BytesFree.f
  have h1 := spec_goodB a fr us (by omega) (by omega)
  have h2 := impl_goodB a fr us hf hu
  cases hg : goodB a fr us with
  | false =>
    rw [hg] at h1 h2
    exact ⟨_, Ev.bind h1 (evn (by decide) (Ev.now _)), Ev.bind h2 (evn (by decide) (Ev.now _))⟩
  | true =>
    rw [hg] at h1 h2
    obtain ⟨_, hc⟩ := good_chain hg
    have hb : ∀ x ∈ fr, blkB x = true := fun x hx => (chainB_low hc x hx).2.2
    exact ⟨_, Ev.bind h1 (evp rfl (spec_bytes_l fr hf hb fr.length 0 0 0 (by omega) (by omega) (by omega))), Ev.bind h2 (evp rfl (impl_bytes_l fr hf hb fr.length 0 0 0 (by omega) (by omega) (by omega)))⟩
theorem FnExactBytesFree : laws_FnExactBytesFree.PureG := by
  intro a fr us ha hf hu
  refine Ev.rounds ?_
  obtain ⟨r, h1, h2⟩ := sz_buddy a fr us hf.1 hu.1
  unfold laws_FnExactBytesFree.f
  refine ev_to_some h1 ?_
  by_cases hr : r < 0
  · exact evp hr (Ev.now _)
  · obtain ⟨hlf2, hlu2⟩ : fr.length < 2 ^ 30 ∧ us.length < 2 ^ 30 := by omega
    obtain ⟨hlf, hlu⟩ : fr.length < 2 ^ 40 ∧ us.length < 2 ^ 40 := by omega
    have T := to_buddy a fr us hlf hlu
    have m1 : (fr.map convBlock).length < 2 ^ 40 := by rw [List.length_map]; exact hlf
    have m2 : (us.map convBlock).length < 2 ^ 40 := by rw [List.length_map]; exact hlu
    obtain ⟨q, e1, e2⟩ := both_BytesFree a (fr.map convBlock) (us.map convBlock) (by rw [List.length_map]; omega) (by rw [List.length_map]; omega)
    refine evn hr (Ev.bind T (Ev.bind e1 (Ev.bind T (Ev.bind e2 (evp rfl (evp rfl ?_))))))
    rw [bne_self_eq_false]
    exact Ev.step (fun k => by simp only [laws_FnExactBytesFree.j0]; rw [if_neg (by decide)]) (Ev.bind T (Ev.bind (eq_buddy a _ _ m1 m2) (evp rfl (Ev.now _))))

end Go.Proofs.Ytbjcioihomeikaa.Pure
