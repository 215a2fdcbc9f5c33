/- The program's GiveBlock answers as the reference's at all buddies and places, and shares no memory; no condition. -/
import Derived.Test.YtbjcioihomeikaaQFnExactGiveBlockx13
import Derived.OpenShut
set_option linter.unusedVariables false
set_option linter.unusedSimpArgs false
namespace Go.Proofs.Ytbjcioihomeikaa.Pure
open Go.RowKit Go.Proofs.Ytbjcioihomeikaa.PFnExactGiveBlock Go.Proofs.YtbjcioihomeikaaW.PrintWords Go.Proofs.YtbjcioihomeikaaW.PrintLast Go.Proofs.YtbjcioihomeikaaW.PrintMore 

theorem wr64 (n : Nat) (h : n < 2 ^ 62) : wrap64 (n : Int) = (n : Int) := by unfold wrap64; omega
theorem wri (n : Int) (h : 0 ≤ n) (h1 : n < 2 ^ 62) : wrap64 n = n := by unfold wrap64; omega
theorem byte_of {x : Int} (h : (Lit.int .u8 x).wf = true) : ∃ n : Nat, n < 256 ∧ x = (n : Int) := by
  have := bounds_u8 h
  exact ⟨x.toNat, by omega, by omega⟩
theorem shr_nat (b j q : Nat) (hj : j ≤ 8) (hq : q = b / 2 ^ j) : shr .u8 (b : Int) (j : Int) = (q : Int) := by
  unfold shr
  rw [Int.toNat_natCast, Nat.min_eq_left (show j ≤ IntKind.bits .u8 from hj), hq]
  simp
theorem dbl (x : Nat) (hx : x < 256) : wrap64 ((x : Int) * 2) = ((2 * x : Nat) : Int) := by unfold wrap64; omega
theorem inc (j : Nat) (hj : j < 2 ^ 62) : wrap64 ((j : Int) + 1) = ((j + 1 : Nat) : Int) := by unfold wrap64; omega
theorem nn (n : Nat) : ¬ ((n : Int) < 0) := by omega

theorem within_tells (a b c : Int) : impl_within.f a b c = some (decide (a ≥ b ∧ a ≤ c)) := by
  unfold impl_within.f
  split
  · rename_i h; simp [h]
  · rename_i h; simp [h]
theorem l1In_tells (a b c : Int) : spec_l1In.f a b c = some (decide (a ≥ b ∧ a ≤ c)) := by
  unfold spec_l1In.f
  split
  · rename_i h; simp [h]
  · rename_i h; simp [h]

theorem ev_of {α : Type} {g : Nat → Option α} {r : α} (K : Nat) (h : ∀ k, K < k → g k = some r) : Ev g r := ⟨K + 1, fun k hk => h k (by omega)⟩
theorem evp {α : Type} {c : Prop} [Decidable c] {f g : Nat → Option α} {r : α} (h : c) (k : Ev f r) : Ev (fun n => if c then f n else g n) r := Ev.congr (fun _ => if_pos h) k
theorem evn {α : Type} {c : Prop} [Decidable c] {f g : Nat → Option α} {r : α} (h : ¬ c) (k : Ev g r) : Ev (fun n => if c then f n else g n) r := Ev.congr (fun _ => if_neg h) k
theorem ev_some {α β : Type} {a : α} {f : Nat → α → Option β} {r : β} (h : Ev (fun n => f n a) r) : Ev (fun n => (some a).bind (f n)) r := h
theorem ev_to_some {α β : Type} {o : Option α} {a : α} {f : Nat → α → Option β} {r : β} (ho : o = some a) (h : Ev (fun n => f n a) r) : Ev (fun n => o.bind (f n)) r := by subst ho; exact h
theorem maxLen_lt : maxLen < 2 ^ 63 := by decide

theorem gset {α : Type} (z : α) (xs : List α) (i j : Nat) (v : α) (hi : i < xs.length) : (xs.set i v).getD j z = if j = i then v else xs.getD j z := by
  simp only [List.getD_eq_getElem?_getD, List.getElem?_set]
  by_cases h : i = j
  · subst h; simp [hi]
  · rw [if_neg h, if_neg (fun e => h e.symm)]
theorem gext {α : Type} (z : α) {l m : List α} (hl : l.length = m.length) (h : ∀ j, j < l.length → l.getD j z = m.getD j z) : l = m := by
  apply List.ext_getElem hl
  intro j h1 h2
  have := h j h1
  simpa [List.getD_eq_getElem?_getD, h1, h2] using this
theorem rdOf_nat {α : Type} (z : α) (xs : List α) (i : Nat) : rdOf z xs (i : Int) = xs.getD i z := by unfold rdOf; rw [Int.toNat_natCast]
theorem gmem {α : Type} (z : α) {xs : List α} {i : Nat} (h : i < xs.length) : xs.getD i z ∈ xs := by
  rw [List.getD_eq_getElem?_getD]; simp [h]
/-- what a count of sizes leaves -/
def Left (B r : Int) : Prop := r < 0 ∨ 0 ≤ r ∧ r ≤ B

theorem shl_sz (o : Nat) (h : o ≤ 8) : shl .i64 1 (o : Int) = ((2 ^ o : Nat) : Int) := by
  have : ∀ o : Nat, o ≤ 8 → shl .i64 1 (o : Int) = ((2 ^ o : Nat) : Int) := by
    intro o ho
    match o, ho with
    | 0, _ => rfl
    | 1, _ => rfl
    | 2, _ => rfl
    | 3, _ => rfl
    | 4, _ => rfl
    | 5, _ => rfl
    | 6, _ => rfl
    | 7, _ => rfl
    | 8, _ => rfl
  exact this o h
theorem u64_small (x : Int) (h0 : 0 ≤ x) (h1 : x < 2 ^ 62) : IntKind.u64.wrap x = x := by
  simp [IntKind.wrap, IntKind.bits, IntKind.signed]; omega
/-- is it a block, as both say it -/
def blk (a o : Int) : Bool := decide (0 ≤ o ∧ o ≤ 8) && (decide (0 ≤ a ∧ a ≤ 1073741824) && (Int.tmod a (2 ^ o.toNat) == 0))
theorem pow_cast (n : Nat) : ((2 ^ n : Nat) : Int) = (2 : Int) ^ n := by simp
theorem pow_ne (n : Nat) : ¬ ((2 : Int) ^ n = 0) := by
  have := Nat.two_pow_pos n
  rw [← pow_cast]; omega
theorem spec_block_tells (a o : Int) : spec_l6Block.f a o = some (blk a o) := by
  unfold spec_l6Block.f blk
  rw [l1In_tells, l1In_tells]
  simp only [Option.bind_some, ge_iff_le]
  by_cases h : 0 ≤ o ∧ o ≤ 8
  · obtain ⟨n, rfl⟩ := Int.eq_ofNat_of_zero_le h.1
    rw [decide_eq_true h, if_pos rfl, u64_small _ (by omega) (by omega), shl_sz n (by omega)]
    by_cases h2 : 0 ≤ a ∧ a ≤ 1073741824
    · rw [decide_eq_true h2, if_pos rfl, if_pos h.1, pow_cast, if_neg (pow_ne n), Int.toNat_natCast]
      rfl
    · rw [decide_eq_false h2]; rfl
  · rw [decide_eq_false h]; rfl
theorem impl_block_tells (a o : Int) : impl_isBlock.f a o = some (blk a o) := by
  unfold impl_isBlock.f blk
  rw [within_tells, within_tells]
  simp only [Option.bind_some, ge_iff_le]
  by_cases h : 0 ≤ o ∧ o ≤ 8
  · obtain ⟨n, rfl⟩ := Int.eq_ofNat_of_zero_le h.1
    rw [decide_eq_true h, if_pos rfl]
    by_cases h2 : 0 ≤ a ∧ a ≤ 1073741824
    · unfold impl_Block_size.f
      rw [decide_eq_true h2, if_pos rfl, if_pos h.1, shl_sz n (by omega), pow_cast]
      simp only [Option.bind_some]
      rw [if_neg (pow_ne n), Int.toNat_natCast]
      rfl
    · rw [decide_eq_false h2]; rfl
  · rw [decide_eq_false h]; rfl
/-- the buddy's place -/
def bud (a o : Int) : Int := Go.bits .xor .i64 a ((2 ^ o.toNat : Nat) : Int)
theorem spec_buddy_tells (a o : Int) (h0 : 0 ≤ o) (h : o ≤ 8) : spec_l6Buddy.f a o = some (bud a o, o) := by
  obtain ⟨n, rfl⟩ := Int.eq_ofNat_of_zero_le h0
  unfold spec_l6Buddy.f bud
  rw [u64_small _ (by omega) (by omega), if_pos h0, shl_sz n (by omega), Int.toNat_natCast]
theorem impl_buddy_tells (a o : Int) (h0 : 0 ≤ o) (h : o ≤ 8) : impl_Block_buddy.f a o = some (bud a o, o) := by
  obtain ⟨n, rfl⟩ := Int.eq_ofNat_of_zero_le h0
  unfold impl_Block_buddy.f impl_Block_size.f bud
  rw [if_pos h0, shl_sz n (by omega), Int.toNat_natCast]
  rfl
theorem blk_order {a o : Int} (h : blk a o = true) : 0 ≤ o ∧ o ≤ 8 := by
  unfold blk at h
  rw [Bool.and_eq_true] at h
  exact of_decide_eq_true h.1

def convBlock (x : S80) : S45 := ⟨x.f0, x.f1⟩
theorem rd_block (xs : List S45) (i : Nat) : rd_T45 xs (i : Int) = xs.getD i z45 := by unfold rd_T45; rw [Int.toNat_natCast]
theorem rd0_block (xs : List S80) (i : Nat) : rd_T80 xs (i : Int) = xs.getD i z80 := by unfold rd_T80; rw [Int.toNat_natCast]
theorem to_blocks_l (xs : List S80) (hl : xs.length < 2 ^ 40) (d : Nat) : ∀ (ys : List S45) (i : Nat), i + d = xs.length → ys.length = xs.length → (∀ j, j < i → ys.getD j z45 = (xs.map convBlock).getD j z45) →
    Ev (fun k => laws_toBlockS.l0 k xs ys (i : Int)) (xs.map convBlock) := by
  induction d with
  | zero =>
    intro ys i hi hy he
    refine Ev.step (fun k => by simp only [laws_toBlockS.l0]; rw [if_neg (by omega)]) ?_
    rw [gext z45 (l := ys) (m := xs.map convBlock) (by rw [List.length_map]; exact hy) (fun j hj => he j (by omega))]
    exact Ev.now _
  | succ d ih =>
    intro ys i hi hy he
    refine Ev.step (fun k => by
      simp only [laws_toBlockS.l0, laws_toBlock.f, Option.bind_some]
      rw [if_pos (by omega), if_pos (by omega), if_pos (by omega), rd0_block, Int.toNat_natCast, inc i (by omega)]) ?_
    refine ih _ (i + 1) (by omega) (by rw [List.length_set]; exact hy) (fun j hj => ?_)
    rw [gset _ _ _ _ _ (by omega)]
    split
    · rename_i e; subst e
      simp only [List.getD_eq_getElem?_getD, List.getElem?_map, List.getElem?_eq_getElem (show j < xs.length by omega), Option.map_some, Option.getD_some, convBlock]
    · exact he j (by omega)
theorem to_blocks (xs : List S80) (hl : xs.length < 2 ^ 40) : Ev (fun k => laws_toBlockS.f k xs) (xs.map convBlock) := by
  unfold laws_toBlockS.f
  exact evp (by omega) (evp (by omega) (to_blocks_l xs hl xs.length _ 0 (by omega) (by simp) (fun j hj => by omega)))
theorem eq_blocks_l (xs : List S45) (hl : xs.length < 2 ^ 40) (d : Nat) : ∀ (i : Nat), i + d = xs.length → Ev (fun k => laws_eqBlockS.l0 k xs xs (i : Int)) true := by
  induction d with
  | zero => intro i hi; exact Ev.step (fun k => by simp only [laws_eqBlockS.l0]; rw [if_neg (by omega)]) (Ev.now _)
  | succ d ih =>
    intro i hi
    exact Ev.step (fun k => by
      simp only [laws_eqBlockS.l0, laws_eqBlock.f, if_true, Option.bind_some]
      rw [if_pos (by omega), if_pos (by omega), if_pos (by omega), inc i (by omega)]) (ih (i + 1) (by omega))
theorem eq_blocks (xs : List S45) (hl : xs.length < 2 ^ 40) : Ev (fun k => laws_eqBlockS.f k xs xs) true := by
  unfold laws_eqBlockS.f
  exact evp rfl (eq_blocks_l xs hl xs.length 0 (by omega))

/-- a block's length -/
def szB (x : S45) : Int := (2 : Int) ^ x.f1.toNat
theorem szB_pos (x : S45) : 1 ≤ szB x := by
  unfold szB
  have := Nat.two_pow_pos x.f1.toNat
  have h := pow_cast x.f1.toNat
  omega
def blkB (x : S45) : Bool := blk x.f0 x.f1
theorem blk_iff {x : S45} : blkB x = true ↔ (0 ≤ x.f1 ∧ x.f1 ≤ 8) ∧ (0 ≤ x.f0 ∧ x.f0 ≤ 1073741824) ∧ Int.tmod x.f0 (2 ^ x.f1.toNat) = 0 := by
  unfold blkB blk
  rw [Bool.and_eq_true, Bool.and_eq_true, decide_eq_true_eq, decide_eq_true_eq, beq_iff_eq]
theorem pow_le8 (n : Nat) (h : n ≤ 8) : (2 : Int) ^ n ≤ 256 := by
  rw [← pow_cast]
  have := Nat.pow_le_pow_right (show 0 < 2 by omega) h
  omega
theorem szB_le {x : S45} (h : blkB x = true) : szB x ≤ 256 := by
  have := (blk_iff.mp h).1
  exact pow_le8 _ (by omega)
/-- blocks that follow each other without gap, from a on: where they end -/
def tile : Int → List S45 → Option Int
  | a, [] => some a
  | a, x :: l => if blkB x = true ∧ x.f0 = a then tile (a + szB x) l else none
/-- blocks that rise, from p on, within so many bytes -/
def chainB (B : Int) : Int → List S45 → Bool
  | _, [] => true
  | p, x :: l => (blkB x && decide (p ≤ x.f0 ∧ x.f0 + szB x ≤ B)) && chainB B (x.f0 + szB x) l
def sumB : List S45 → Int
  | [] => 0
  | x :: l => szB x + sumB l
theorem sumB_nonneg : ∀ l : List S45, 0 ≤ sumB l
  | [] => Int.le_refl 0
  | x :: l => by have := sumB_nonneg l; have := szB_pos x; rw [sumB]; omega
theorem sumB_append : ∀ l m : List S45, sumB (l ++ m) = sumB l + sumB m
  | [], m => by rw [List.nil_append, sumB]; omega
  | x :: l, m => by rw [List.cons_append, sumB, sumB, sumB_append l m]; omega
theorem sumB_perm {l m : List S45} (h : List.Perm l m) : sumB l = sumB m := by
  induction h with
  | nil => rfl
  | cons x _ ih => rw [sumB, sumB, ih]
  | swap x y l => rw [sumB, sumB, sumB, sumB]; omega
  | trans _ _ h1 h2 => exact h1.trans h2
theorem chainB_cons {B p : Int} {x : S45} {l : List S45} (h : chainB B p (x :: l) = true) : blkB x = true ∧ (p ≤ x.f0 ∧ x.f0 + szB x ≤ B) ∧ chainB B (x.f0 + szB x) l = true := by
  rw [chainB, Bool.and_eq_true, Bool.and_eq_true, decide_eq_true_eq] at h
  exact ⟨h.1.1, h.1.2, h.2⟩
theorem chainB_mk {B p : Int} {x : S45} {l : List S45} (h1 : blkB x = true) (h2 : p ≤ x.f0 ∧ x.f0 + szB x ≤ B) (h3 : chainB B (x.f0 + szB x) l = true) : chainB B p (x :: l) = true := by
  rw [chainB, Bool.and_eq_true, Bool.and_eq_true, decide_eq_true_eq]
  exact ⟨⟨h1, h2⟩, h3⟩
theorem chainB_sum {B : Int} : ∀ {l : List S45} {p : Int}, p ≤ B → chainB B p l = true → p + sumB l ≤ B
  | [], p, hp, _ => by rw [sumB]; omega
  | x :: l, p, hp, h => by
    obtain ⟨_, h2, h3⟩ := chainB_cons h
    have := chainB_sum h2.2 h3
    rw [sumB]; omega
theorem chainB_tile {B : Int} : ∀ {l : List S45} {p : Int}, p ≤ B → chainB B p l = true → p + sumB l = B → tile p l = some B
  | [], p, hp, _, h => by rw [sumB] at h; rw [tile]; congr 1; omega
  | x :: l, p, hp, h, hs => by
    obtain ⟨h1, h2, h3⟩ := chainB_cons h
    have := chainB_sum h2.2 h3
    rw [sumB] at hs
    have e : x.f0 = p := by omega
    rw [tile, if_pos ⟨h1, e⟩, ← e]
    exact chainB_tile h2.2 h3 (by omega)
theorem tile_cons {p : Int} {x : S45} {l : List S45} {r : Int} (h : tile p (x :: l) = some r) : blkB x = true ∧ x.f0 = p ∧ tile (p + szB x) l = some r := by
  rw [tile] at h
  split at h
  · rename_i hc; exact ⟨hc.1, hc.2, h⟩
  · cases h
theorem tile_chain : ∀ {l : List S45} {p r : Int}, tile p l = some r → chainB r p l = true ∧ p + sumB l = r
  | [], p, r, h => by
    rw [tile] at h
    obtain rfl := Option.some.inj h
    exact ⟨rfl, by rw [sumB]; omega⟩
  | x :: l, p, r, h => by
    obtain ⟨h1, h2, h3⟩ := tile_cons h
    obtain ⟨i1, i2⟩ := tile_chain h3
    have := sumB_nonneg l
    refine ⟨chainB_mk h1 ⟨by omega, by omega⟩ (by rw [h2]; exact i1), by rw [sumB]; omega⟩
/-- all blocks of a chain lie apart and rise -/
def aheadB (x y : S45) : Prop := x.f0 + szB x ≤ y.f0
theorem chainB_low {B : Int} : ∀ {l : List S45} {p : Int}, chainB B p l = true → ∀ y ∈ l, p ≤ y.f0 ∧ y.f0 + szB y ≤ B ∧ blkB y = true
  | [], _, _, y, hy => by cases hy
  | x :: l, p, h, y, hy => by
    obtain ⟨h1, h2, h3⟩ := chainB_cons h
    rcases List.mem_cons.mp hy with rfl | hy
    · exact ⟨h2.1, h2.2, h1⟩
    · have h4 := chainB_low h3 y hy
      have := szB_pos x
      exact ⟨by omega, h4.2.1, h4.2.2⟩
theorem chainB_pair {B : Int} : ∀ {l : List S45} {p : Int}, chainB B p l = true → List.Pairwise aheadB l
  | [], _, _ => List.Pairwise.nil
  | x :: l, p, h => by
    obtain ⟨_, _, h3⟩ := chainB_cons h
    exact List.Pairwise.cons (fun y hy => (chainB_low h3 y hy).1) (chainB_pair h3)
theorem pair_chainB {B : Int} : ∀ {l : List S45} {p : Int}, List.Pairwise aheadB l → (∀ y ∈ l, p ≤ y.f0 ∧ y.f0 + szB y ≤ B ∧ blkB y = true) → chainB B p l = true
  | [], _, _, _ => rfl
  | x :: l, p, h, hy => by
    have hx := hy x List.mem_cons_self
    refine chainB_mk hx.2.2 ⟨hx.1, hx.2.1⟩ (pair_chainB (List.Pairwise.of_cons h) (fun y hyl => ?_))
    have := hy y (List.mem_cons_of_mem _ hyl)
    exact ⟨List.rel_of_pairwise_cons h hyl, this.2⟩
/-- two blocks lie apart -/
def apartB (x y : S45) : Prop := x.f0 + szB x ≤ y.f0 ∨ y.f0 + szB y ≤ x.f0
theorem apartB_symm {x y : S45} (h : apartB x y) : apartB y x := h.symm
def riseB (x y : S45) : Prop := x.f0 < y.f0
theorem apart_ahead {l : List S45} (h1 : List.Pairwise apartB l) (h2 : List.Pairwise (fun x y => x.f0 ≤ y.f0) l) : List.Pairwise aheadB l := by
  refine (List.Pairwise.and h1 h2).imp (fun {x y} h => ?_)
  have := szB_pos x
  have := szB_pos y
  rcases h.1 with h3 | h3
  · exact h3
  · have := h.2; omega
/-- what both say of a list of blocks, sorted, and of two lists of which it is made -/
theorem tile_iff {B : Int} (hB : 0 ≤ B) {fr us s : List S45} (hp : List.Perm s (fr ++ us)) (hs : List.Pairwise (fun x y => x.f0 ≤ y.f0) s) :
    (List.Pairwise riseB fr ∧ List.Pairwise riseB us ∧ tile 0 s = some B) ↔ (chainB B 0 fr = true ∧ chainB B 0 us = true ∧ sumB fr + sumB us = B ∧ ∀ x ∈ fr, ∀ y ∈ us, apartB x y) := by
  constructor
  · rintro ⟨hf, hu, ht⟩
    obtain ⟨c1, c2⟩ := tile_chain ht
    have hap : List.Pairwise apartB s := (chainB_pair c1).imp (fun h => Or.inl h)
    have hap2 : List.Pairwise apartB (fr ++ us) := hp.pairwise hap (fun h => apartB_symm h)
    obtain ⟨pf, pu, px⟩ := List.pairwise_append.mp hap2
    have hlow : ∀ y ∈ fr ++ us, 0 ≤ y.f0 ∧ y.f0 + szB y ≤ B ∧ blkB y = true := fun y hy => chainB_low c1 y (hp.mem_iff.mpr hy)
    refine ⟨pair_chainB (apart_ahead pf (hf.imp (fun h => Int.le_of_lt h))) (fun y hy => hlow y (List.mem_append_left _ hy)), pair_chainB (apart_ahead pu (hu.imp (fun h => Int.le_of_lt h))) (fun y hy => hlow y (List.mem_append_right _ hy)), ?_, px⟩
    rw [← sumB_append, ← sumB_perm hp]
    omega
  · rintro ⟨cf, cu, hsum, hx⟩
    have pf := chainB_pair cf
    have pu := chainB_pair cu
    have hap2 : List.Pairwise apartB (fr ++ us) := List.pairwise_append.mpr ⟨pf.imp (fun h => Or.inl h), pu.imp (fun h => Or.inl h), hx⟩
    have hap : List.Pairwise apartB s := hp.symm.pairwise hap2 (fun h => apartB_symm h)
    have hlow : ∀ y ∈ s, 0 ≤ y.f0 ∧ y.f0 + szB y ≤ B ∧ blkB y = true := fun y hy => by
      rcases List.mem_append.mp (hp.mem_iff.mp hy) with h | h
      · exact chainB_low cf y h
      · exact chainB_low cu y h
    have rise : ∀ {l : List S45}, List.Pairwise aheadB l → List.Pairwise riseB l := fun h => h.imp (fun {x y} h => by have := szB_pos x; unfold aheadB at h; unfold riseB; omega)
    refine ⟨rise pf, rise pu, chainB_tile hB (pair_chainB (apart_ahead hap hs) hlow) ?_⟩
    rw [sumB_perm hp, sumB_append]
    omega

/-! ### A buddy's list of blocks: what both say of it -/
theorem getb (l : List S45) (i : Nat) (h : i < l.length) : l.getD i z45 = l[i] := by rw [List.getD_eq_getElem?_getD, List.getElem?_eq_getElem h]; rfl
theorem szB_shl {x : S45} (h : blkB x = true) : shl .i64 1 (IntKind.u64.wrap x.f1) = szB x ∧ 0 ≤ IntKind.u64.wrap x.f1 ∧ 0 ≤ x.f1 := by
  have h1 := (blk_iff.mp h).1
  obtain ⟨n, hn⟩ := Int.eq_ofNat_of_zero_le h1.1
  unfold szB
  rw [hn, u64_small _ (by omega) (by omega), shl_sz n (by omega), Int.toNat_natCast, pow_cast]
  exact ⟨rfl, by omega, by omega⟩
theorem szB_shl' {x : S45} (h : blkB x = true) : shl .i64 1 x.f1 = szB x := by
  have h1 := (blk_iff.mp h).1
  obtain ⟨n, hn⟩ := Int.eq_ofNat_of_zero_le h1.1
  unfold szB
  rw [hn, shl_sz n (by omega), Int.toNat_natCast, pow_cast]
theorem spec_list_l (l : List S45) (hl : l.length < 2 ^ 40) (B : Int) (hB0 : 0 ≤ B) (hB1 : B ≤ 256) (d : Nat) : ∀ (i : Nat) (S p : Int), i + d = l.length → 0 ≤ S → S ≤ 256 * (i : Int) →
    (i = 0 ∧ p = 0 ∨ 0 < i ∧ blkB (l.getD (i - 1) z45) = true ∧ p = (l.getD (i - 1) z45).f0 + szB (l.getD (i - 1) z45)) →
    Ev (fun k => spec_l6List.l0 k l B S l (l.length : Int) (i : Int)) (if chainB B p (l.drop i) = true then (S + sumB (l.drop i), true) else (0, false)) := by
  induction d with
  | zero =>
    intro i S p hi _ _ _
    rw [List.drop_eq_nil_of_le (by omega), chainB, if_pos rfl, sumB, Int.add_zero]
    exact Ev.step (fun k => by simp only [spec_l6List.l0]; rw [if_neg (by omega)]) (Ev.now _)
  | succ d ih =>
    intro i S p hi h0 h1 hp
    have hlt : i < l.length := by omega
    rw [List.drop_eq_getElem_cons hlt, chainB, sumB]
    have hg := getb l i hlt
    refine Ev.step (fun k => by simp only [spec_l6List.l0]; rw [if_pos (by omega), if_pos (by omega), if_pos (by omega), rd_block, hg, spec_block_tells]) (ev_some ?_)
    show Ev (fun k => if blkB l[i] = true then _ else _) _
    cases hb : blkB l[i] with
    | false => exact evn (by decide) (by rw [Bool.false_and, Bool.false_and, if_neg (by decide)]; exact Ev.now _)
    | true =>
      obtain ⟨s1, s2, _⟩ := szB_shl hb
      have q1 := szB_pos l[i]
      have q2 := szB_le hb
      have q3 := (blk_iff.mp hb).2.1
      rw [Bool.true_and]
      refine evp rfl (evp s2 ?_)
      rw [s1]
      have w1 : wrap64 (B - szB l[i]) = B - szB l[i] := by unfold wrap64; omega
      have w2 : wrap64 (S + szB l[i]) = S + szB l[i] := by unfold wrap64; omega
      rw [w1, w2]
      by_cases h2 : (l[i]).f0 + szB l[i] ≤ B
      · refine evn (by omega) ?_
        have go := ih (i + 1) (S + szB l[i]) ((l[i]).f0 + szB l[i]) (by omega) (by omega) (by omega) (Or.inr ⟨by omega, by rw [Nat.add_sub_cancel, hg]; exact hb, by rw [Nat.add_sub_cancel, hg]⟩)
        rw [Int.add_assoc] at go
        rcases hp with ⟨rfl, rfl⟩ | ⟨hpos, hpb, rfl⟩
        · refine evn (by omega) ?_
          simp only [show decide ((0 : Int) ≤ (l[0]).f0 ∧ (l[0]).f0 + szB l[0] ≤ B) = true from decide_eq_true ⟨q3.1, h2⟩, Bool.true_and]
          rw [inc 0 (by omega)]
          exact go
        · have w3 : wrap64 ((i : Int) - 1) = ((i - 1 : Nat) : Int) := by unfold wrap64; omega
          obtain ⟨r1, r2, _⟩ := szB_shl hpb
          have q4 := szB_pos (l.getD (i - 1) z45)
          have q5 := szB_le hpb
          have q6 := (blk_iff.mp hpb).2.1
          rw [w3, rd_block]
          refine evp (by omega) (evp (by omega) (evp (by omega) (evp r2 ?_)))
          rw [r1]
          have w4 : wrap64 ((l.getD (i - 1) z45).f0 + szB (l.getD (i - 1) z45)) = (l.getD (i - 1) z45).f0 + szB (l.getD (i - 1) z45) := by unfold wrap64; omega
          rw [w4]
          by_cases h3 : (l.getD (i - 1) z45).f0 + szB (l.getD (i - 1) z45) ≤ (l[i]).f0
          · refine evn (by omega) ?_
            rw [decide_eq_true (show (l.getD (i - 1) z45).f0 + szB (l.getD (i - 1) z45) ≤ (l[i]).f0 ∧ (l[i]).f0 + szB l[i] ≤ B by omega), Bool.true_and, inc i (by omega)]
            exact go
          · refine evp (by omega) ?_
            rw [decide_eq_false (fun h => h3 h.1), Bool.false_and, if_neg (by decide)]
            exact Ev.now _
      · refine evp (by omega) ?_
        rw [decide_eq_false (fun h => h2 h.2), Bool.false_and, if_neg (by decide)]
        exact Ev.now _
theorem spec_list (l : List S45) (hl : l.length < 2 ^ 40) (B : Int) (hB0 : 0 ≤ B) (hB1 : B ≤ 256) : Ev (fun k => spec_l6List.f k l B) (if chainB B 0 l = true then (sumB l, true) else (0, false)) := by
  have := spec_list_l l hl B hB0 hB1 l.length 0 0 0 (by omega) (by omega) (by omega) (Or.inl ⟨rfl, rfl⟩)
  rw [List.drop_zero, Int.zero_add] at this
  exact this
/-- is there such a block -/
def inB (l : List S45) (a o : Int) : Bool := l.any fun y => (y.f0 == a) && (y.f1 == o)
theorem spec_at_l (l : List S45) (hl : l.length < 2 ^ 40) (a o : Int) (d : Nat) : ∀ i : Nat, i + d = l.length → ∃ r, Ev (fun k => spec_l6At.l0 k l (l.length : Int) (i : Int) a o) r ∧ decide (r ≥ 0) = inB (l.drop i) a o := by
  induction d with
  | zero =>
    intro i hi
    rw [List.drop_eq_nil_of_le (by omega)]
    exact ⟨-1, Ev.step (fun k => by simp only [spec_l6At.l0]; rw [if_neg (by omega)]) (Ev.now _), rfl⟩
  | succ d ih =>
    intro i hi
    have hlt : i < l.length := by omega
    obtain ⟨r, e, hr⟩ := ih (i + 1) (by omega)
    rw [List.drop_eq_getElem_cons hlt]
    unfold inB at hr ⊢
    rw [List.any_cons]
    cases hc : ((l[i]).f0 == a) && ((l[i]).f1 == o) with
    | true => exact ⟨(i : Int), Ev.step (fun k => by simp only [spec_l6At.l0]; rw [if_pos (by omega), if_pos (by omega), if_pos (by omega), rd_block, getb l i hlt, hc, if_pos rfl]) (Ev.now _), by rw [Bool.true_or]; exact decide_eq_true (by omega)⟩
    | false => exact ⟨r, Ev.step (fun k => by simp only [spec_l6At.l0]; rw [if_pos (by omega), if_pos (by omega), if_pos (by omega), rd_block, getb l i hlt, hc, if_neg (by decide), inc i (by omega)]) e, by rw [Bool.false_or]; exact hr⟩
theorem impl_has_l (l : List S45) (hl : l.length < 2 ^ 40) (a o : Int) (d : Nat) : ∀ i : Nat, i + d = l.length → ∃ r, Ev (fun k => impl_Block_61.l0 k l (l.length : Int) (i : Int) a o) r ∧ decide (r ≥ 0) = inB (l.drop i) a o := by
  induction d with
  | zero =>
    intro i hi
    rw [List.drop_eq_nil_of_le (by omega)]
    exact ⟨-1, Ev.step (fun k => by simp only [impl_Block_61.l0]; rw [if_neg (by omega)]) (Ev.now _), rfl⟩
  | succ d ih =>
    intro i hi
    have hlt : i < l.length := by omega
    obtain ⟨r, e, hr⟩ := ih (i + 1) (by omega)
    rw [List.drop_eq_getElem_cons hlt]
    unfold inB at hr ⊢
    rw [List.any_cons]
    have hsw : ((a == (l[i]).f0) && (o == (l[i]).f1)) = (((l[i]).f0 == a) && ((l[i]).f1 == o)) := by rw [Bool.beq_comm (a := a), Bool.beq_comm (a := o)]
    cases hc : ((l[i]).f0 == a) && ((l[i]).f1 == o) with
    | true => exact ⟨(i : Int), Ev.step (fun k => by simp only [impl_Block_61.l0]; rw [if_pos (by omega), if_pos (by omega), if_pos (by omega), rd_block, getb l i hlt, hsw, hc, if_pos rfl]) (Ev.now _), by rw [Bool.true_or]; exact decide_eq_true (by omega)⟩
    | false => exact ⟨r, Ev.step (fun k => by simp only [impl_Block_61.l0]; rw [if_pos (by omega), if_pos (by omega), if_pos (by omega), rd_block, getb l i hlt, hsw, hc, if_neg (by decide), inc i (by omega)]) e, by rw [Bool.false_or]; exact hr⟩
theorem impl_has (l : List S45) (hl : l.length < 2 ^ 40) (a o : Int) : Ev (fun k => impl_Block_37.f k l a o) (inB l a o) := by
  obtain ⟨r, e, hr⟩ := impl_has_l l hl a o l.length 0 (by omega)
  rw [List.drop_zero] at hr
  unfold impl_Block_37.f
  rw [← hr]
  exact Ev.bind e (Ev.now _)
/-- two blocks apart, as a test -/
def apB (x y : S45) : Bool := decide (x.f0 + szB x ≤ y.f0 ∨ y.f0 + szB y ≤ x.f0)
theorem spec_apart (x48 : List S45) (L i ord : Int) (fr us : List S45) (hl : us.length < 2 ^ 40) (hus : ∀ y ∈ us, blkB y = true) (x : S45) (hx : blkB x = true) (R : Bool) (hR : Ev (fun k => spec_GoodBuddy.l0 k x48 L (wrap64 (i + 1)) ord fr us) R) (d : Nat) : ∀ j : Nat, j + d = us.length →
    Ev (fun k => spec_GoodBuddy.l1 k x48 L i us (us.length : Int) (j : Int) ord fr us x.f0 x.f1) ((us.drop j).all (apB x) && R) := by
  obtain ⟨s1, s2, _⟩ := szB_shl hx
  have q1 := szB_pos x
  have q2 := szB_le hx
  have q3 := (blk_iff.mp hx).2.1
  induction d with
  | zero =>
    intro j hj
    rw [List.drop_eq_nil_of_le (by omega), List.all_nil, Bool.true_and]
    exact Ev.step (fun k => by simp only [spec_GoodBuddy.l1]; rw [if_neg (by omega)]) hR
  | succ d ih =>
    intro j hj
    have hlt : j < us.length := by omega
    have hy := hus _ (List.getElem_mem hlt)
    obtain ⟨r1, r2, _⟩ := szB_shl hy
    have q4 := szB_pos us[j]
    have q5 := szB_le hy
    have q6 := (blk_iff.mp hy).2.1
    have w1 : wrap64 ((us[j]).f0 + szB us[j]) = (us[j]).f0 + szB us[j] := by unfold wrap64; omega
    have w2 : wrap64 (x.f0 + szB x) = x.f0 + szB x := by unfold wrap64; omega
    rw [List.drop_eq_getElem_cons hlt, List.all_cons]
    refine Ev.step (fun k => by simp only [spec_GoodBuddy.l1]; rw [if_pos (by omega), if_pos (by omega), if_pos (by omega), rd_block, getb us j hlt, if_pos r2, r1, s1, w1, w2, inc j (by omega)]) ?_
    have go := ih (j + 1) (by omega)
    by_cases h1 : x.f0 < (us[j]).f0 + szB us[j]
    · refine evp h1 (evp s2 ?_)
      by_cases h2 : (us[j]).f0 < x.f0 + szB x
      · rw [show apB x us[j] = false from decide_eq_false (by omega), Bool.false_and, Bool.false_and]
        exact evp h2 (Ev.now _)
      · rw [show apB x us[j] = true from decide_eq_true (by omega), Bool.true_and]
        exact evn h2 go
    · rw [show apB x us[j] = true from decide_eq_true (by omega), Bool.true_and]
      exact evn h1 go
theorem spec_free (ord : Int) (fr us : List S45) (hlf : fr.length < 2 ^ 40) (hlu : us.length < 2 ^ 40) (hfr : ∀ x ∈ fr, blkB x = true) (hus : ∀ y ∈ us, blkB y = true) (d : Nat) : ∀ i : Nat, i + d = fr.length →
    Ev (fun k => spec_GoodBuddy.l0 k fr (fr.length : Int) (i : Int) ord fr us) ((fr.drop i).all fun x => !(decide (x.f1 < ord) && inB fr (bud x.f0 x.f1) x.f1) && us.all (apB x)) := by
  induction d with
  | zero =>
    intro i hi
    rw [List.drop_eq_nil_of_le (by omega), List.all_nil]
    exact Ev.step (fun k => by simp only [spec_GoodBuddy.l0]; rw [if_neg (by omega)]) (Ev.now _)
  | succ d ih =>
    intro i hi
    have hlt : i < fr.length := by omega
    have hx := hfr _ (List.getElem_mem hlt)
    have go := ih (i + 1) (by omega)
    rw [← inc i (by omega)] at go
    have ap := spec_apart fr (fr.length : Int) (i : Int) ord fr us hlu hus fr[i] hx _ go us.length 0 (by omega)
    rw [List.drop_zero, show ((0 : Nat) : Int) = 0 from rfl] at ap
    rw [List.drop_eq_getElem_cons hlt, List.all_cons]
    refine Ev.step (fun k => by simp only [spec_GoodBuddy.l0]; rw [if_pos (by omega), if_pos (by omega), if_pos (by omega), rd_block, getb fr i hlt]) ?_
    have hf : Ev (fun k => spec_GoodBuddy.j2 k fr (fr.length : Int) (i : Int) false ord fr us (fr[i]).f0 (fr[i]).f1) (us.all (apB fr[i]) && (fr.drop (i + 1)).all fun x => !(decide (x.f1 < ord) && inB fr (bud x.f0 x.f1) x.f1) && us.all (apB x)) := Ev.step (fun k => by simp only [spec_GoodBuddy.j2]; rw [if_neg (by decide)]) ap
    by_cases h1 : (fr[i]).f1 < ord
    · rw [decide_eq_true h1, Bool.true_and]
      refine evp h1 (ev_to_some (spec_buddy_tells _ _ (blk_iff.mp hx).1.1 (blk_iff.mp hx).1.2) ?_)
      obtain ⟨r, e, hr⟩ := spec_at_l fr hlf (bud (fr[i]).f0 (fr[i]).f1) (fr[i]).f1 fr.length 0 (by omega)
      rw [List.drop_zero] at hr
      refine Ev.bind e ?_
      rw [hr]
      cases inB fr (bud (fr[i]).f0 (fr[i]).f1) (fr[i]).f1 with
      | true => rw [Bool.not_true, Bool.false_and, Bool.false_and]; exact Ev.step (fun k => by simp only [spec_GoodBuddy.j2]; rw [if_pos True.intro]) (Ev.now _)
      | false => exact hf
    · rw [decide_eq_false h1]
      exact evn h1 hf
/-- the spec's answer -/
def goodB (ord : Int) (fr us : List S45) : Bool := decide (0 ≤ ord ∧ ord ≤ 8) && ((chainB (2 ^ ord.toNat) 0 fr && chainB (2 ^ ord.toNat) 0 us && decide (sumB fr + sumB us = 2 ^ ord.toNat)) && fr.all fun x => !(decide (x.f1 < ord) && inB fr (bud x.f0 x.f1) x.f1) && us.all (apB x))
theorem spec_goodB (ord : Int) (fr us : List S45) (hlf : fr.length < 2 ^ 40) (hlu : us.length < 2 ^ 40) : Ev (fun k => spec_GoodBuddy.f k ord fr us) (goodB ord fr us) := by
  unfold spec_GoodBuddy.f goodB
  rw [l1In_tells]
  refine ev_some ?_
  by_cases ho : 0 ≤ ord ∧ ord ≤ 8
  · simp only [show decide (ord ≥ 0 ∧ ord ≤ 8) = true from decide_eq_true ho, show decide (0 ≤ ord ∧ ord ≤ 8) = true from decide_eq_true ho, Bool.true_and]
    obtain ⟨n, rfl⟩ := Int.eq_ofNat_of_zero_le ho.1
    refine evp trivial ?_
    rw [u64_small _ (by omega) (by omega), shl_sz n (by omega), pow_cast, Int.toNat_natCast]
    have hp := pow_le8 n (by omega)
    have hp1 : (1 : Int) ≤ 2 ^ n := by have := Nat.two_pow_pos n; rw [← pow_cast]; omega
    generalize (2 : Int) ^ n = B at hp hp1
    have e1 := spec_list fr hlf B (by omega) hp
    have e2 := spec_list us hlu B (by omega) hp
    have no : Ev (fun k => spec_GoodBuddy.j0 k true (n : Int) fr us) false := Ev.step (fun k => by simp only [spec_GoodBuddy.j0]; rw [if_pos True.intro]) (Ev.now _)
    refine evp (by omega) (Ev.bind e1 (Ev.bind e2 ?_))
    cases c1 : chainB B 0 fr with
    | false => rw [if_neg (by decide), Bool.false_and, Bool.false_and, Bool.false_and]; exact evn (by decide) no
    | true =>
      rw [if_pos rfl, Bool.true_and]
      refine evp rfl ?_
      cases c2 : chainB B 0 us with
      | false => rw [if_neg (by decide), Bool.false_and, Bool.false_and]; exact evn (by decide) no
      | true =>
        rw [if_pos rfl, Bool.true_and]
        refine evp rfl ?_
        have b1 := chainB_sum (show (0 : Int) ≤ B by omega) c1
        have b2 := chainB_sum (show (0 : Int) ≤ B by omega) c2
        have b3 := sumB_nonneg fr
        have b4 := sumB_nonneg us
        show Ev (fun k => spec_GoodBuddy.j0 k ((wrap64 (sumB fr + sumB us)) != B) (n : Int) fr us) _
        rw [show wrap64 (sumB fr + sumB us) = sumB fr + sumB us by unfold wrap64; omega]
        by_cases hs : sumB fr + sumB us = B
        · rw [decide_eq_true hs, Bool.true_and, hs, bne_self_eq_false]
          refine Ev.step (fun k => by simp only [spec_GoodBuddy.j0]; rw [if_neg (by decide)]) ?_
          have := spec_free (n : Int) fr us hlf hlu (fun x hx => (chainB_low c1 x hx).2.2) (fun x hx => (chainB_low c2 x hx).2.2) fr.length 0 (by omega)
          rw [List.drop_zero] at this
          exact this
        · rw [decide_eq_false hs, Bool.false_and, bne_iff_ne.mpr hs]
          exact no
  · simp only [show decide (ord ≥ 0 ∧ ord ≤ 8) = false from decide_eq_false ho, show decide (0 ≤ ord ∧ ord ≤ 8) = false from decide_eq_false ho, Bool.false_and]
    exact evn (by decide) (Ev.now _)
/-- rising, as a test of neighbours -/
def riseL : List S45 → Bool
  | [] => true
  | [_] => true
  | x :: y :: l => decide (x.f0 < y.f0) && riseL (y :: l)
theorem riseL_iff : ∀ l : List S45, riseL l = true ↔ List.Pairwise riseB l
  | [] => ⟨fun _ => List.Pairwise.nil, fun _ => rfl⟩
  | [x] => ⟨fun _ => List.pairwise_singleton _ _, fun _ => rfl⟩
  | x :: y :: l => by
    have ih := riseL_iff (y :: l)
    rw [riseL, Bool.and_eq_true, decide_eq_true_eq, ih]
    constructor
    · rintro ⟨h1, h2⟩
      refine List.Pairwise.cons (fun z hz => ?_) h2
      rcases List.mem_cons.mp hz with rfl | hz
      · exact h1
      · have := List.rel_of_pairwise_cons h2 hz
        unfold riseB at this ⊢; omega
    · intro h
      exact ⟨List.rel_of_pairwise_cons h List.mem_cons_self, List.Pairwise.of_cons h⟩
theorem impl_rise_l (l : List S45) (hl : l.length < 2 ^ 40) (d : Nat) : ∀ i : Nat, i + d = l.length → 1 ≤ i → Ev (fun k => impl_isRising.l0 k l (i : Int)) (riseL (l.drop (i - 1))) := by
  induction d with
  | zero =>
    intro i hi h1
    have hlt : i - 1 < l.length := by omega
    rw [List.drop_eq_getElem_cons hlt, List.drop_eq_nil_of_le (by omega)]
    exact Ev.step (fun k => by simp only [impl_isRising.l0]; rw [if_neg (by omega)]; rfl) (Ev.now _)
  | succ d ih =>
    intro i hi h1
    have hlt : i < l.length := by omega
    have hlt2 : i - 1 < l.length := by omega
    have go := ih (i + 1) (by omega) (by omega)
    rw [Nat.add_sub_cancel, List.drop_eq_getElem_cons hlt] at go
    have e : l.drop (i - 1) = l[i - 1] :: l[i] :: l.drop (i + 1) := by
      rw [List.drop_eq_getElem_cons hlt2, show i - 1 + 1 = i by omega, List.drop_eq_getElem_cons hlt]
    have w1 : wrap64 ((i : Int) - 1) = ((i - 1 : Nat) : Int) := by unfold wrap64; omega
    rw [e, riseL]
    refine Ev.step (fun k => by simp only [impl_isRising.l0]; rw [if_pos (by omega), if_pos (by omega), w1, if_pos (by omega), if_pos (by omega), rd_block, rd_block, getb l i hlt, getb l (i - 1) hlt2, inc i (by omega)]) ?_
    by_cases h : (l[i - 1]).f0 < (l[i]).f0
    · rw [decide_eq_true h, Bool.true_and]
      exact evn (by omega) go
    · rw [decide_eq_false h, Bool.false_and]
      exact evp (by omega) (Ev.now _)
theorem impl_rise (l : List S45) (hl : l.length < 2 ^ 40) : Ev (fun k => impl_isRising.f k l) (riseL l) := by
  unfold impl_isRising.f
  cases l with
  | nil => exact Ev.step (fun k => by simp only [impl_isRising.l0]; rw [if_neg (by simp)]; rfl) (Ev.now _)
  | cons x l =>
    have := impl_rise_l (x :: l) hl l.length 1 (by simp only [List.length_cons]; omega) (by omega)
    exact this
theorem ev_buds (fr : List S45) (hl : fr.length < 2 ^ 40) : ∀ l : List S45, (∀ x ∈ l, blkB x = true) → Ev (fun k => if (l.all fun x => (budB k fr x).isSome) = true then some (l.any fun x => (budB k fr x).getD false) else none) (l.any fun x => inB fr (bud x.f0 x.f1) x.f1)
  | [], _ => Ev.congr (fun _ => rfl) (Ev.now _)
  | x :: l, h => by
    obtain ⟨K1, h1⟩ := ev_buds fr hl l (fun y hy => h y (List.mem_cons_of_mem _ hy))
    have hx := h x List.mem_cons_self
    obtain ⟨K2, h2⟩ := impl_has fr hl (bud x.f0 x.f1) x.f1
    refine ⟨K1 + K2, fun k hk => ?_⟩
    have g1 : (if (l.all fun x => (budB k fr x).isSome) = true then some (l.any fun x => (budB k fr x).getD false) else none) = some (l.any fun x => inB fr (bud x.f0 x.f1) x.f1) := h1 k (by omega)
    have g2 : budB k fr x = some (inB fr (bud x.f0 x.f1) x.f1) := by
      unfold budB
      rw [impl_buddy_tells _ _ (blk_iff.mp hx).1.1 (blk_iff.mp hx).1.2]
      exact h2 k (by omega)
    simp only [List.all_cons, List.any_cons, g2, Option.isSome_some, Bool.true_and, Option.getD_some]
    split at g1
    · rename_i hc
      rw [if_pos hc, Option.some.inj g1]
    · cases g1
theorem impl_buds (fr : List S45) (hl : fr.length < 2 ^ 40) (h : ∀ x ∈ fr, blkB x = true) : Ev (fun k => impl_Block_53.f k fr fr) (fr.any fun x => inB fr (bud x.f0 x.f1) x.f1) := by
  unfold impl_Block_53.f
  exact ev_buds fr hl fr h
theorem impl_tile (s : List S45) (hl : s.length < 2 ^ 40) (n : Nat) (hn : n ≤ 8) (fr us : List S45) (v : Bool) (hv : tile 0 s = some (2 ^ n) → Ev (fun k => impl_Block_53.f k fr fr) v) (d : Nat) : ∀ (i : Nat) (a : Int), i + d = s.length → 0 ≤ a → a ≤ 2 ^ 31 → tile 0 s = tile a (s.drop i) →
    Ev (fun k => impl_GoodBuddy.l0 k a s (s.length : Int) (i : Int) (n : Int) fr us) (decide (tile a (s.drop i) = some (2 ^ n)) && !v) := by
  induction d with
  | zero =>
    intro i a hi h0 h1 ht
    rw [List.drop_eq_nil_of_le (by omega), tile] at ht ⊢
    refine Ev.step (fun k => by simp only [impl_GoodBuddy.l0]; rw [if_neg (by omega), if_pos (by omega), shl_sz n hn, pow_cast]) ?_
    by_cases h : a = 2 ^ n
    · rw [decide_eq_true (by rw [h]), Bool.true_and]
      exact evp h (Ev.bind (hv (by rw [ht, h])) (Ev.now _))
    · rw [decide_eq_false (fun e => h (Option.some.inj e)), Bool.false_and]
      exact evn h (Ev.now _)
  | succ d ih =>
    intro i a hi h0 h1 ht
    have hlt : i < s.length := by omega
    rw [List.drop_eq_getElem_cons hlt, tile] at ht ⊢
    refine Ev.step (fun k => by simp only [impl_GoodBuddy.l0]; rw [if_pos (by omega), if_pos (by omega), if_pos (by omega), rd_block, getb s i hlt, impl_block_tells]) (ev_some ?_)
    show Ev (fun k => if blkB s[i] = true then _ else _) _
    cases hb : blkB s[i] with
    | false =>
      rw [if_neg (fun h => by cases h.1), decide_eq_false (by simp), Bool.false_and]
      exact evn (by decide) (Ev.now _)
    | true =>
      refine evp rfl ?_
      by_cases hc : (s[i]).f0 = a
      · rw [hb, if_pos ⟨rfl, hc⟩] at ht
        rw [if_pos ⟨rfl, hc⟩]
        have q1 := szB_pos s[i]
        have q2 := szB_le hb
        have q3 := (blk_iff.mp hb).2.1
        have hsz : impl_Block_size.f (s[i]).f0 (s[i]).f1 = some (szB s[i]) := by
          unfold impl_Block_size.f
          rw [if_pos (blk_iff.mp hb).1.1, szB_shl' hb]
        refine evp hc (ev_to_some hsz ?_)
        rw [show wrap64 (a + szB s[i]) = a + szB s[i] by unfold wrap64; omega, inc i (by omega)]
        exact ih (i + 1) (a + szB s[i]) (by omega) (by omega) (by omega) ht
      · rw [if_neg (fun h => hc h.2), decide_eq_false (by simp), Bool.false_and]
        exact evn hc (Ev.now _)
theorem bud_top (n : Nat) (hn : n ≤ 8) : bud 0 (n : Int) = 2 ^ n := by
  unfold bud
  rw [Int.toNat_natCast, ← pow_cast]
  have : ∀ o : Nat, o ≤ 8 → Go.bits .xor .i64 0 ((2 ^ o : Nat) : Int) = ((2 ^ o : Nat) : Int) := by
    intro o ho
    match o, ho with
    | 0, _ => rfl
    | 1, _ => rfl
    | 2, _ => rfl
    | 3, _ => rfl
    | 4, _ => rfl
    | 5, _ => rfl
    | 6, _ => rfl
    | 7, _ => rfl
    | 8, _ => rfl
  exact this n hn
theorem pow_mono {a b : Nat} (h : a ≤ b) : (2 : Int) ^ a ≤ 2 ^ b := by
  rw [← pow_cast, ← pow_cast]
  have := Nat.pow_le_pow_right (show 0 < 2 by omega) h
  omega
/-- a block that is no smaller than the whole has no buddy inside -/
theorem no_bud {n : Nat} (hn : n ≤ 8) {fr : List S45} (hc : chainB (2 ^ n) 0 fr = true) {x : S45} (hx : x ∈ fr) (ho : ¬ x.f1 < (n : Int)) : inB fr (bud x.f0 x.f1) x.f1 = false := by
  obtain ⟨l1, l2, l3⟩ := chainB_low hc x hx
  obtain ⟨⟨b1, b2⟩, _, _⟩ := blk_iff.mp l3
  obtain ⟨m, hm⟩ := Int.eq_ofNat_of_zero_le b1
  have hsz : szB x = 2 ^ m := by unfold szB; rw [hm, Int.toNat_natCast]
  have h1 := pow_mono (show n ≤ m by omega)
  have h2 : x.f0 = 0 := by omega
  have h3 : m = n := by
    by_cases h : m = n
    · exact h
    · have h4 := pow_mono (show n + 1 ≤ m by omega)
      rw [Int.pow_succ] at h4
      have h5 : (1 : Int) ≤ 2 ^ n := by have := Nat.two_pow_pos n; rw [← pow_cast]; omega
      omega
  unfold inB
  rw [List.any_eq_false]
  intro y hy hyc
  rw [Bool.and_eq_true, beq_iff_eq, beq_iff_eq, h2, hm, h3, bud_top n hn] at hyc
  obtain ⟨k1, k2, k3⟩ := chainB_low hc y hy
  have := szB_pos y
  omega
theorem impl_goodB (ord : Int) (fr us : List S45) (hlf : fr.length < 2 ^ 38) (hlu : us.length < 2 ^ 38) : Ev (fun k => impl_GoodBuddy.f k ord fr us) (goodB ord fr us) := by
  unfold impl_GoodBuddy.f goodB
  rw [within_tells]
  refine ev_some ?_
  by_cases ho : 0 ≤ ord ∧ ord ≤ 8
  · simp only [show decide (ord ≥ 0 ∧ ord ≤ 8) = true from decide_eq_true ho, show decide (0 ≤ ord ∧ ord ≤ 8) = true from decide_eq_true ho, Bool.true_and]
    obtain ⟨n, rfl⟩ := Int.eq_ofNat_of_zero_le ho.1
    have hn : n ≤ 8 := by omega
    refine evp trivial ?_
    rw [Int.toNat_natCast]
    have no : Ev (fun k => impl_GoodBuddy.j0 k true (n : Int) fr us) false := Ev.step (fun k => by simp only [impl_GoodBuddy.j0]; rw [if_pos True.intro]) (Ev.now _)
    have hB : (0 : Int) ≤ 2 ^ n := by have := Nat.two_pow_pos n; rw [← pow_cast]; omega
    obtain ⟨t1, t2, t3⟩ := sortB_told (fr ++ us)
    have ti := tile_iff (B := 2 ^ n) hB t2 t3
    have val : (riseL fr && (riseL us && (decide (tile 0 (sortB (fr ++ us)) = some (2 ^ n)) && !(fr.any fun x => inB fr (bud x.f0 x.f1) x.f1)))) = ((chainB (2 ^ n) 0 fr && chainB (2 ^ n) 0 us && decide (sumB fr + sumB us = 2 ^ n)) && fr.all fun x => !(decide (x.f1 < (n : Int)) && inB fr (bud x.f0 x.f1) x.f1) && us.all (apB x)) := by
      rw [Bool.eq_iff_iff]
      simp only [Bool.and_eq_true, decide_eq_true_eq, riseL_iff, Bool.not_eq_true', List.any_eq_false, List.all_eq_true, Bool.and_eq_false_iff, decide_eq_false_iff_not]
      constructor
      · rintro ⟨r1, r2, r3, r4⟩
        obtain ⟨d1, d2, d3, d4⟩ := ti.mp ⟨r1, r2, r3⟩
        exact ⟨⟨⟨d1, d2⟩, d3⟩, fun x hx => ⟨Or.inr (by simpa using r4 x hx), fun y hy => decide_eq_true (show x.f0 + szB x ≤ y.f0 ∨ y.f0 + szB y ≤ x.f0 from d4 x hx y hy)⟩⟩
      · rintro ⟨⟨⟨d1, d2⟩, d3⟩, d4⟩
        obtain ⟨r1, r2, r3⟩ := ti.mpr ⟨d1, d2, d3, fun x hx y hy => of_decide_eq_true (p := x.f0 + szB x ≤ y.f0 ∨ y.f0 + szB y ≤ x.f0) ((d4 x hx).2 y hy)⟩
        refine ⟨r1, r2, r3, fun x hx => ?_⟩
        rcases (d4 x hx).1 with h | h
        · simpa using no_bud hn d1 hx h
        · simpa using h
    rw [← val]
    refine Ev.bind (impl_rise fr (by omega)) ?_
    cases c1 : riseL fr with
    | false => rw [Bool.false_and]; exact evn (by decide) no
    | true =>
      rw [Bool.true_and]
      refine evp rfl (Ev.bind (impl_rise us (by omega)) ?_)
      cases c2 : riseL us with
      | false => rw [Bool.false_and]; exact no
      | true =>
        rw [Bool.true_and]
        refine Ev.step (fun k => by simp only [impl_GoodBuddy.j0]; rw [if_neg (by decide)]) ?_
        have hcl : impl_Block_35.f fr = some fr := by unfold impl_Block_35.f; rw [if_pos (by omega)]
        refine ev_to_some hcl (evp (by omega) (ev_some ?_))
        have hv : tile 0 (sortB (fr ++ us)) = some (2 ^ n) → Ev (fun k => impl_Block_53.f k fr fr) (fr.any fun x => inB fr (bud x.f0 x.f1) x.f1) := fun ht => impl_buds fr (by omega) (fun x hx => (chainB_low (tile_chain ht).1 x (t2.mem_iff.mpr (List.mem_append_left _ hx))).2.2)
        have := impl_tile (sortB (fr ++ us)) (by rw [t1, List.length_append]; omega) n hn fr us _ hv (sortB (fr ++ us)).length 0 0 (by omega) (by omega) (by omega) (by rw [List.drop_zero])
        rw [List.drop_zero] at this
        exact this
  · simp only [show decide (ord ≥ 0 ∧ ord ≤ 8) = false from decide_eq_false ho, show decide (0 ≤ ord ∧ ord ≤ 8) = false from decide_eq_false ho, Bool.false_and]
    exact evn (by decide) (Ev.step (fun k => by simp only [impl_GoodBuddy.j0]; rw [if_pos True.intro]) (Ev.now _))
theorem sz_buddy (a : Int) (fr us : List S80) (hf : fr.length ≤ maxLen) (hu : us.length ≤ maxLen) : ∃ r, laws_szBuddy.f a fr us 1048576 = some r ∧ (r < 0 ∨ fr.length < 2 ^ 30 ∧ us.length < 2 ^ 30) := by
  have hm := maxLen_lt
  unfold laws_szBuddy.f laws_szBlockS.f
  have w1 : wrap64 (1048576 - (fr.length : Int)) = 1048576 - (fr.length : Int) := by unfold wrap64; omega
  rw [w1]
  by_cases h1 : 1048576 - (fr.length : Int) < 0
  · rw [if_pos h1]; exact ⟨-1, rfl, Or.inl (by omega)⟩
  · rw [if_neg h1, Option.bind_some, if_neg h1]
    have w2 : wrap64 (1048576 - (fr.length : Int) - (us.length : Int)) = 1048576 - (fr.length : Int) - (us.length : Int) := by unfold wrap64; omega
    rw [w2]
    by_cases h2 : 1048576 - (fr.length : Int) - (us.length : Int) < 0
    · rw [if_pos h2]; exact ⟨-1, rfl, Or.inl (by omega)⟩
    · rw [if_neg h2, Option.bind_some, if_neg h2]; exact ⟨_, rfl, Or.inr (by omega)⟩
theorem to_buddy (a : Int) (fr us : List S80) (hf : fr.length < 2 ^ 40) (hu : us.length < 2 ^ 40) : Ev (fun k => laws_toBuddy.f k a fr us) (a, fr.map convBlock, us.map convBlock) :=
  Ev.bind (to_blocks fr hf) (Ev.bind (to_blocks us hu) (Ev.now _))
theorem eq_buddy (a : Int) (fr us : List S45) (hf : fr.length < 2 ^ 40) (hu : us.length < 2 ^ 40) : Ev (fun k => laws_eqBuddy.f k a fr us a fr us) true := by
  unfold laws_eqBuddy.f
  exact evp rfl (Ev.bind (eq_blocks fr hf) (evp rfl (Ev.bind (eq_blocks us hu) (evp rfl (Ev.now _)))))

-- the place of a block among blocks that rise, as the search finds it and as a count of the blocks ahead
/-- how many blocks at the head lie ahead of t -/
def plB (t : Int) : List S45 → Nat
  | [] => 0
  | x :: l => if x.f0 < t then plB t l + 1 else 0
def leB (x y : S45) : Prop := x.f0 ≤ y.f0
theorem plB_le (t : Int) : ∀ l : List S45, plB t l ≤ l.length
  | [] => Nat.le_refl _
  | x :: l => by
    rw [plB]
    split
    · have := plB_le t l; simp; omega
    · simp
theorem plB_lt (t : Int) : ∀ (l : List S45) (j : Nat), j < plB t l → (l.getD j z45).f0 < t
  | [], j, h => by simp [plB] at h
  | x :: l, j, h => by
    rw [plB] at h
    split at h
    · rename_i hx
      cases j with
      | zero => exact hx
      | succ j => exact plB_lt t l j (by omega)
    · omega
theorem plB_ge (t : Int) : ∀ (l : List S45), List.Pairwise leB l → ∀ j, plB t l ≤ j → j < l.length → ¬ (l.getD j z45).f0 < t
  | [], _, j, _, h => by simp at h
  | x :: l, hp, j, h, hl => by
    obtain ⟨h1, h2⟩ := List.pairwise_cons.mp hp
    rw [plB] at h
    split at h
    · cases j with
      | zero => omega
      | succ j => exact plB_ge t l h2 j (by omega) (by simpa using hl)
    · rename_i hx
      cases j with
      | zero => exact hx
      | succ j =>
        have hj : j < l.length := by simpa using hl
        have e : ((x :: l).getD (j + 1) z45) = l[j] := by simp [List.getD_eq_getElem?_getD, hj]
        rw [e]
        have := h1 l[j] (List.getElem_mem hj)
        unfold leB at this
        omega
theorem bsB_place_l (l : List S45) (t : Int) (hp : List.Pairwise leB l) : ∀ (n lo hi : Nat), lo ≤ plB t l → plB t l ≤ hi → hi ≤ l.length → hi - lo ≤ n → bsB l t n lo hi = plB t l
  | 0, lo, hi, h1, h2, _, h4 => by rw [bsB]; omega
  | n + 1, lo, hi, h1, h2, h3, h4 => by
    rw [bsB]
    split
    · rename_i hlt
      have hm : (lo + hi) / 2 < l.length := by omega
      have e : rd_T45 l (((lo + hi) / 2 : Nat) : Int) = l.getD ((lo + hi) / 2) z45 := by unfold rd_T45; rw [Int.toNat_natCast]
      rw [e]
      split
      · rename_i hx
        refine bsB_place_l l t hp n _ _ ?_ h2 h3 (by omega)
        rcases Nat.lt_or_ge ((lo + hi) / 2) (plB t l) with h | h
        · exact h
        · exact absurd hx (plB_ge t l hp _ h hm)
      · rename_i hx
        refine bsB_place_l l t hp n _ _ h1 ?_ (by omega) (by omega)
        rcases Nat.lt_or_ge ((lo + hi) / 2) (plB t l) with h | h
        · exact absurd (plB_lt t l _ h) hx
        · exact h
    · omega
theorem bsB_place (l : List S45) (t : Int) (hp : List.Pairwise leB l) : bsB l t l.length 0 l.length = plB t l := bsB_place_l l t hp l.length 0 l.length (Nat.zero_le _) (plB_le t l) (Nat.le_refl _) (by omega)
/-- blocks with one more in its place -/
def putB (l : List S45) (x : S45) : List S45 := insAt l (plB x.f0 l) x
theorem putB_nil (x : S45) : putB [] x = [x] := rfl
theorem putB_cons (y : S45) (l : List S45) (x : S45) : putB (y :: l) x = if y.f0 < x.f0 then y :: putB l x else x :: y :: l := by
  unfold putB insAt
  rw [plB]
  split <;> simp
theorem putB_mem {l : List S45} {x y : S45} : y ∈ putB l x ↔ y = x ∨ y ∈ l := by
  induction l with
  | nil => simp [putB_nil]
  | cons z l ih =>
    rw [putB_cons]
    split
    · simp [ih]; exact or_left_comm
    · simp
theorem putB_perm (l : List S45) (x : S45) : List.Perm (putB l x) (x :: l) := by
  induction l with
  | nil => exact List.Perm.refl _
  | cons z l ih =>
    rw [putB_cons]
    split
    · exact (ih.cons z).trans (List.Perm.swap x z l)
    · exact List.Perm.refl _
theorem putB_length (l : List S45) (x : S45) : (putB l x).length = l.length + 1 := (putB_perm l x).length_eq
theorem putB_le {l : List S45} {x : S45} (h : List.Pairwise leB l) : List.Pairwise leB (putB l x) := by
  induction l with
  | nil => simp [putB_nil]
  | cons z l ih =>
    obtain ⟨h1, h2⟩ := List.pairwise_cons.mp h
    rw [putB_cons]
    split
    · rename_i hx
      refine List.pairwise_cons.mpr ⟨fun y hy => ?_, ih h2⟩
      rcases putB_mem.mp hy with rfl | hy
      · unfold leB; omega
      · exact h1 y hy
    · rename_i hx
      refine List.pairwise_cons.mpr ⟨fun y hy => ?_, h⟩
      rcases List.mem_cons.mp hy with rfl | hy
      · unfold leB; omega
      · have := h1 y hy
        unfold leB at *
        omega

/-- blocks without one -/
def lackB (l : List S45) (x : S45) : List S45 := l.filter fun y => !(y.f0 == x.f0 && y.f1 == x.f1)
theorem lackB_far {l : List S45} {x : S45} (h : ∀ y ∈ l, y.f0 ≠ x.f0) : lackB l x = l := by
  unfold lackB
  rw [List.filter_eq_self]
  intro y hy
  have := h y hy
  simp [this]
theorem lackB_at : ∀ (l : List S45) (k : Nat) (hk : k < l.length), List.Pairwise riseB l → lackB l l[k] = l.take k ++ l.drop (k + 1)
  | [], k, hk, _ => absurd hk (Nat.not_lt_zero k)
  | y :: l, 0, _, hp => by
    obtain ⟨h1, h2⟩ := List.pairwise_cons.mp hp
    have hf := lackB_far (l := l) (x := y) (fun z hz => by have := h1 z hz; unfold riseB at this; omega)
    show lackB (y :: l) y = l
    unfold lackB at hf ⊢
    rw [List.filter_cons_of_neg (by simp), hf]
  | y :: l, k + 1, hk, hp => by
    obtain ⟨h1, h2⟩ := List.pairwise_cons.mp hp
    have hk' : k < l.length := by simpa using hk
    have ih := lackB_at l k hk' h2
    have hy : y.f0 ≠ (l[k]).f0 := by have := h1 l[k] (List.getElem_mem hk'); unfold riseB at this; omega
    show lackB (y :: l) l[k] = y :: (l.take k ++ l.drop (k + 1))
    rw [← ih]
    unfold lackB
    rw [List.filter_cons_of_pos (by simp [hy])]
theorem lack_tells (l : List S45) (hl : l.length < 2 ^ 40) (x : S45) : impl_lacking.f l x.f0 x.f1 = some (lackB l x) := by
  unfold impl_lacking.f lackB
  rw [if_pos hl]
theorem without_tells (l : List S45) (hl : l.length < 2 ^ 40) (k : Nat) (hk : k < l.length) : spec_l6Without.f l (k : Int) = some (l.take k ++ l.drop (k + 1)) := by
  unfold spec_l6Without.f
  rw [inc k (by omega)]
  simp only [Option.bind_some, List.nil_append, List.length_nil, Int.toNat_natCast]
  rw [if_pos (by omega), if_pos (by omega), if_pos (by rw [List.length_take]; omega), if_pos (by omega), if_pos (by omega), if_pos (by rw [List.length_take, List.length_drop]; omega)]
theorem lackB_length (l : List S45) (x : S45) : (lackB l x).length ≤ l.length := List.length_filter_le _ _
theorem lackB_sub (l : List S45) (x : S45) : List.Sublist (lackB l x) l := List.filter_sublist
theorem rise_le {l : List S45} (h : List.Pairwise riseB l) : List.Pairwise leB l := h.imp fun {a b} q => by unfold riseB at q; unfold leB; omega
theorem ahead_rise {l : List S45} (h : List.Pairwise aheadB l) : List.Pairwise riseB l := h.imp fun {a b} q => by have := szB_pos a; unfold aheadB at q; unfold riseB; omega
theorem with_tells (l : List S45) (hl : l.length < 2 ^ 40) (hp : List.Pairwise leB l) (a o : Int) : impl_with.f l a o = some (putB l ⟨a, o⟩) := by
  unfold impl_with.f putB
  rw [if_pos hl, bsB_place l a hp]
theorem plB_stop (t : Int) : ∀ (l : List S45), plB t l < l.length → ¬ (l.getD (plB t l) z45).f0 < t
  | [], h => by simp at h
  | x :: l, h => by
    by_cases hx : x.f0 < t
    · have e : plB t (x :: l) = plB t l + 1 := by rw [plB, if_pos hx]
      rw [e] at h ⊢
      exact plB_stop t l (by simpa using h)
    · have e : plB t (x :: l) = 0 := by rw [plB, if_neg hx]
      rw [e]
      exact hx
theorem put_l (l : List S45) (hl : l.length < 2 ^ 40) (a o : Int) (d : Nat) : ∀ i : Nat, i + d = plB a l → Ev (fun k => spec_l6Put.l0 k l (i : Int) a o) (putB l ⟨a, o⟩) := by
  have hle := plB_le a l
  induction d with
  | zero =>
    intro i hi
    obtain rfl : i = plB a l := hi
    have hput : putB l ⟨a, o⟩ = l.take (plB a l) ++ [⟨a, o⟩] ++ l.drop (plB a l) := rfl
    rw [hput]
    by_cases hlt : plB a l < l.length
    · have hst := plB_stop a l hlt
      refine Ev.step (fun k => ?_) (Ev.now _)
      rw [spec_l6Put.l0, if_pos (by omega), if_pos (by omega), rd_block, if_neg hst]
      simp only [Option.bind_some, List.nil_append, List.length_nil, Int.toNat_natCast]
      rw [if_pos (by omega), if_pos (by rw [List.length_take]; omega), if_pos (by rw [List.length_take]; omega), if_pos (by rw [List.length_append, List.length_take, List.length_drop]; show _ + 1 + _ < _; omega)]
    · refine Ev.step (fun k => ?_) (Ev.now _)
      rw [spec_l6Put.l0, if_neg (by omega)]
      simp only [Option.bind_some, List.nil_append, List.length_nil, Int.toNat_natCast]
      rw [if_pos (by omega), if_pos (by omega), if_pos (by rw [List.length_take]; omega), if_pos (by rw [List.length_take]; omega), if_pos (by rw [List.length_append, List.length_take, List.length_drop]; show _ + 1 + _ < _; omega)]
  | succ d ih =>
    intro i hi
    have h := plB_lt a l i (by omega)
    refine Ev.step (fun k => ?_) (ih (i + 1) (by omega))
    rw [spec_l6Put.l0, if_pos (by omega), if_pos (by omega), rd_block, if_pos h, inc i (by omega)]
theorem put_tells (l : List S45) (hl : l.length < 2 ^ 40) (a o : Int) : Ev (fun k => spec_l6Put.f k l a o) (putB l ⟨a, o⟩) := by
  unfold spec_l6Put.f
  exact put_l l hl a o (plB a l) 0 (by omega)

theorem mark_blocks_l (m : Nat) (hm : m < 2 ^ 44) (d : Nat) : ∀ (xs : List S45) (i : Nat), i + d = xs.length → xs.length < 2 ^ 40 → (∀ j, j < i → xs.getD j z45 = ⟨((m + 2 * j : Nat) : Int), ((m + 2 * j + 1 : Nat) : Int)⟩) →
    ∃ ys, Ev (fun k => laws_markBlockS.l0 k xs ((m + 2 * i : Nat) : Int) (i : Int)) (((m + 2 * xs.length : Nat) : Int), ys) ∧ ys.length = xs.length ∧ ∀ j, j < xs.length → ys.getD j z45 = ⟨((m + 2 * j : Nat) : Int), ((m + 2 * j + 1 : Nat) : Int)⟩ := by
  induction d with
  | zero =>
    intro xs i hi _ hxs
    refine ⟨xs, Ev.step (fun k => by rw [laws_markBlockS.l0, if_neg (by omega)]) (by rw [show i = xs.length by omega]; exact Ev.now _), rfl, fun j hj => hxs j (by omega)⟩
  | succ d ih =>
    intro xs i hi hl hxs
    obtain ⟨ys, hr, hn, hy⟩ := ih (xs.set i ⟨((m + 2 * i : Nat) : Int), ((m + 2 * i + 1 : Nat) : Int)⟩) (i + 1) (by rw [List.length_set]; omega) (by rw [List.length_set]; omega) (fun j hj => by
      rw [gset _ _ _ _ _ (by omega)]
      split
      · rename_i e; subst e; rfl
      · exact hxs j (by omega))
    rw [List.length_set] at hr hn hy
    have hw : wrap64 (((m + 2 * i : Nat) : Int) + 1) = ((m + 2 * i + 1 : Nat) : Int) := by unfold wrap64; omega
    have hw2 : wrap64 (((m + 2 * i + 1 : Nat) : Int) + 1) = ((m + 2 * (i + 1) : Nat) : Int) := by unfold wrap64; omega
    have st : ∀ k, laws_markBlockS.l0 (k + 1) xs ((m + 2 * i : Nat) : Int) (i : Int) = laws_markBlockS.l0 k (xs.set i ⟨((m + 2 * i : Nat) : Int), ((m + 2 * i + 1 : Nat) : Int)⟩) ((m + 2 * (i + 1) : Nat) : Int) ((i + 1 : Nat) : Int) := fun k => by
      rw [laws_markBlockS.l0]
      rw [if_pos (by omega), if_pos (by omega), Option.bind_some, hw, hw2, inc i (by omega), Int.toNat_natCast]
      simp only [rd_block, List.set_set]
      rw [gset _ _ _ _ _ (by omega), if_pos rfl]
    exact ⟨ys, Ev.step st hr, hn, hy⟩
theorem held_blocks_l (m : Nat) (hm : m < 2 ^ 44) (d : Nat) : ∀ (ys : List S45) (i : Nat), i + d = ys.length → ys.length < 2 ^ 40 → (∀ j, j < ys.length → ys.getD j z45 = ⟨((m + 2 * j : Nat) : Int), ((m + 2 * j + 1 : Nat) : Int)⟩) →
    Ev (fun k => laws_heldBlockS.l0 k ys ((m + 2 * i : Nat) : Int) (i : Int)) ((m + 2 * ys.length : Nat) : Int) := by
  induction d with
  | zero =>
    intro ys i hi _ _
    exact Ev.step (fun k => by rw [laws_heldBlockS.l0, if_neg (by omega)]) (by rw [show i = ys.length by omega]; exact Ev.now _)
  | succ d ih =>
    intro ys i hi hl hy
    have hw : wrap64 (((m + 2 * i : Nat) : Int) + 1) = ((m + 2 * i + 1 : Nat) : Int) := by unfold wrap64; omega
    have hw2 : wrap64 (((m + 2 * i + 1 : Nat) : Int) + 1) = ((m + 2 * (i + 1) : Nat) : Int) := by unfold wrap64; omega
    refine Ev.step (fun k => by
      rw [laws_heldBlockS.l0]
      rw [if_pos (by omega), if_pos (by omega), rd_block, hy i (by omega)]
      rw [if_pos rfl, hw, if_pos rfl, hw2, inc i (by omega)]) (ih ys (i + 1) (by omega) hl hy)
theorem marked_blocks (m : Nat) (hm : m < 2 ^ 44) (xs : List S45) (hl : xs.length < 2 ^ 40) :
    ∃ ys, Ev (fun k => laws_markBlockS.f k xs (m : Int)) (((m + 2 * xs.length : Nat) : Int), ys) ∧ ys.length = xs.length ∧ Ev (fun k => laws_heldBlockS.f k ys (m : Int)) ((m + 2 * xs.length : Nat) : Int) := by
  obtain ⟨ys, h1, h2, h3⟩ := mark_blocks_l m hm xs.length xs 0 (by omega) hl (fun j hj => by omega)
  have h4 := held_blocks_l m hm ys.length ys 0 (by omega) (by omega) (fun j hj => h3 j (by omega))
  rw [Nat.mul_zero, Nat.add_zero] at h1 h4
  rw [h2] at h4
  exact ⟨ys, h1, h2, h4⟩
theorem marked_buddy (b : Int) (xs ys : List S45) (hx : xs.length < 2 ^ 40) (hy : ys.length < 2 ^ 40) :
    ∃ us vs, Ev (fun k => laws_markBuddy.f k b xs ys 1) (((1 + 2 * xs.length + 2 * ys.length : Nat) : Int), us, vs) ∧ us.length = xs.length ∧ vs.length = ys.length ∧ Ev (fun k => laws_heldBlockS.f k us 1) ((1 + 2 * xs.length : Nat) : Int) ∧ Ev (fun k => laws_heldBlockS.f k vs ((1 + 2 * xs.length : Nat) : Int)) ((1 + 2 * xs.length + 2 * ys.length : Nat) : Int) := by
  obtain ⟨us, a1, a2, a3⟩ := marked_blocks 1 (by omega) xs hx
  obtain ⟨vs, b1, b2, b3⟩ := marked_blocks (1 + 2 * xs.length) (by omega) ys hy
  exact ⟨us, vs, Ev.bind a1 (Ev.bind b1 (Ev.now _)), a2, b2, a3, b3⟩
theorem marked_blocks1 (xs : List S45) (hl : xs.length < 2 ^ 40) :
    ∃ ys, Ev (fun k => laws_markBlockS.f k xs 1) (((1 + 2 * xs.length : Nat) : Int), ys) ∧ ys.length = xs.length ∧ Ev (fun k => laws_heldBlockS.f k ys 1) ((1 + 2 * xs.length : Nat) : Int) := marked_blocks 1 (by omega) xs hl
theorem held_buddy (b : Int) (n m : Nat) (us vs : List S45) (h1 : Ev (fun k => laws_heldBlockS.f k us 1) (n : Int)) (h2 : Ev (fun k => laws_heldBlockS.f k vs (n : Int)) (m : Int)) : Ev (fun k => laws_heldBuddy.f k b us vs 1) (m : Int) :=
  Ev.bind h1 (evn (nn n) (Ev.bind h2 (evn (nn m) (Ev.now _))))

theorem good_chains {ord : Int} {fr us : List S45} (h : goodB ord fr us = true) : (0 ≤ ord ∧ ord ≤ 8) ∧ chainB (2 ^ ord.toNat) 0 fr = true ∧ chainB (2 ^ ord.toNat) 0 us = true := by
  unfold goodB at h
  simp only [Bool.and_eq_true, decide_eq_true_eq] at h
  exact ⟨h.1, h.2.1.1.1, h.2.1.1.2⟩

/-- the place of a block among blocks -/
theorem spec_at_in (l : List S45) (hl : l.length < 2 ^ 40) (a o : Int) (d : Nat) : ∀ i : Nat, i + d = l.length → ∃ r, Ev (fun k => spec_l6At.l0 k l (l.length : Int) (i : Int) a o) r ∧ ((r = -1 ∧ inB (l.drop i) a o = false) ∨ ∃ k : Nat, ∃ h : k < l.length, r = (k : Int) ∧ l[k] = ⟨a, o⟩ ∧ inB (l.drop i) a o = true) := by
  induction d with
  | zero =>
    intro i hi
    rw [List.drop_eq_nil_of_le (by omega)]
    exact ⟨-1, Ev.step (fun k => by simp only [spec_l6At.l0]; rw [if_neg (by omega)]) (Ev.now _), .inl ⟨rfl, rfl⟩⟩
  | succ d ih =>
    intro i hi
    have hlt : i < l.length := by omega
    obtain ⟨r, e, hr⟩ := ih (i + 1) (by omega)
    rw [List.drop_eq_getElem_cons hlt]
    unfold inB at hr ⊢
    rw [List.any_cons]
    cases hc : ((l[i]).f0 == a) && ((l[i]).f1 == o) with
    | true =>
      refine ⟨(i : Int), Ev.step (fun k => by simp only [spec_l6At.l0]; rw [if_pos (by omega), if_pos (by omega), if_pos (by omega), rd_block, getb l i hlt, hc, if_pos rfl]) (Ev.now _), .inr ⟨i, hlt, rfl, ?_, by rw [Bool.true_or]⟩⟩
      rw [Bool.and_eq_true, beq_iff_eq, beq_iff_eq] at hc
      rw [← hc.1, ← hc.2]
    | false => exact ⟨r, Ev.step (fun k => by simp only [spec_l6At.l0]; rw [if_pos (by omega), if_pos (by omega), if_pos (by omega), rd_block, getb l i hlt, hc, if_neg (by decide), inc i (by omega)]) e, by rw [Bool.false_or]; exact hr⟩
theorem spec_at_tells (l : List S45) (hl : l.length < 2 ^ 40) (a o : Int) : ∃ r, Ev (fun k => spec_l6At.f k l a o) r ∧ ((r = -1 ∧ inB l a o = false) ∨ ∃ k : Nat, ∃ h : k < l.length, r = (k : Int) ∧ l[k] = ⟨a, o⟩ ∧ inB l a o = true) := by
  obtain ⟨r, e, hr⟩ := spec_at_in l hl a o l.length 0 (by omega)
  rw [List.drop_zero] at hr
  exact ⟨r, e, hr⟩
def chkJ (o p : Nat) : Bool := p % 2 ^ o != 0 || (Go.bits .andNot .i64 (p : Int) (shl .i64 1 (o : Int)) == mn (p : Int) (bud (p : Int) (o : Int)) && (decide (0 ≤ mn (p : Int) (bud (p : Int) (o : Int))) && (mn (p : Int) (bud (p : Int) (o : Int)) % 2 ^ (o + 1) == 0 && decide (mn (p : Int) (bud (p : Int) (o : Int)) ≤ (p : Int)))))
theorem chkJs : ∀ o : Nat, o < 8 → ∀ p : Nat, p < 256 → chkJ o p = true := by decide +kernel
theorem join_bits {o p : Nat} (ho : o < 8) (hp : p < 256) (hm : p % 2 ^ o = 0) : ∃ q : Nat, mn (p : Int) (bud (p : Int) (o : Int)) = (q : Int) ∧ Go.bits .andNot .i64 (p : Int) (shl .i64 1 (o : Int)) = (q : Int) ∧ q % 2 ^ (o + 1) = 0 ∧ q ≤ p := by
  have h := chkJs o ho p hp
  unfold chkJ at h
  rw [hm] at h
  simp only [bne_self_eq_false, Bool.false_or, Bool.and_eq_true, beq_iff_eq, decide_eq_true_eq] at h
  obtain ⟨h1, h2, h3, h4⟩ := h
  obtain ⟨q, hq⟩ := Int.eq_ofNat_of_zero_le h2
  rw [hq] at h1 h3 h4
  refine ⟨q, hq, h1, ?_, by omega⟩
  rw [← pow_cast] at h3
  exact_mod_cast h3
/-- what is asked of a block that is given back, and of what is free beside it -/
structure JoinI (n o p : Nat) (F : List S45) : Prop where
  on : o ≤ n
  n8 : n ≤ 8
  al : p % 2 ^ o = 0
  fit : p + 2 ^ o ≤ 2 ^ n
  rise : List.Pairwise riseB F
  low : ∀ y ∈ F, 0 ≤ y.f0 ∧ y.f0 + szB y ≤ 2 ^ n ∧ blkB y = true
  len : F.length < 2 ^ 38
theorem up_fit {o n q : Nat} (hon : o + 1 ≤ n) (hq : q % 2 ^ (o + 1) = 0) (h : q < 2 ^ n) : q + 2 ^ (o + 1) ≤ 2 ^ n := by
  obtain ⟨e, rfl⟩ : ∃ e, n = o + 1 + e := ⟨n - (o + 1), by omega⟩
  obtain ⟨m, rfl⟩ := Nat.dvd_of_mod_eq_zero hq
  rw [Nat.pow_add 2 (o + 1) e] at h ⊢
  have h1 : m < 2 ^ e := Nat.lt_of_mul_lt_mul_left h
  calc 2 ^ (o + 1) * m + 2 ^ (o + 1) = 2 ^ (o + 1) * (m + 1) := by rw [Nat.mul_add, Nat.mul_one]
    _ ≤ _ := Nat.mul_le_mul_left _ h1
theorem JoinI.up {n o p : Nat} {F : List S45} (h : JoinI n o p F) (ho : o < n) (b : S45) {q : Nat} (hq : q % 2 ^ (o + 1) = 0) (hle : q ≤ p) : JoinI n (o + 1) q (lackB F b) where
  on := ho
  n8 := h.n8
  al := hq
  fit := up_fit ho hq (by have := h.fit; have := Nat.two_pow_pos o; omega)
  rise := h.rise.sublist (lackB_sub _ _)
  low := fun y hy => h.low y ((lackB_sub F b).subset hy)
  len := Nat.lt_of_le_of_lt (lackB_length _ _) h.len
theorem JoinI.lt256 {n o p : Nat} {F : List S45} (h : JoinI n o p F) : p < 256 := by
  have h1 := h.fit
  have h2 := Nat.two_pow_pos o
  have h3 : 2 ^ n ≤ 2 ^ 8 := Nat.pow_le_pow_right (by omega) h.n8
  omega
/-- the blocks free when a block is given back: it joins with its buddy as long as that is free -/
def joinB : Nat → Nat → Nat → List S45 → List S45
  | 0, o, p, F => putB F ⟨(p : Int), (o : Int)⟩
  | d + 1, o, p, F => if inB F (bud (p : Int) (o : Int)) (o : Int) = true then joinB d (o + 1) (mn (p : Int) (bud (p : Int) (o : Int))).toNat (lackB F ⟨bud (p : Int) (o : Int), (o : Int)⟩) else putB F ⟨(p : Int), (o : Int)⟩
theorem joinB_length : ∀ (d o p : Nat) (F : List S45), (joinB d o p F).length ≤ F.length + 1
  | 0, o, p, F => by rw [joinB, putB_length]; exact Nat.le_refl _
  | d + 1, o, p, F => by
    rw [joinB]
    split
    · have h1 := joinB_length d (o + 1) (mn (p : Int) (bud (p : Int) (o : Int))).toNat (lackB F ⟨bud (p : Int) (o : Int), (o : Int)⟩)
      have h2 := lackB_length F ⟨bud (p : Int) (o : Int), (o : Int)⟩
      omega
    · rw [putB_length]; exact Nat.le_refl _
theorem spec_join_l (n ki : Nat) (fr us us' : List S45) (hus : spec_l6Without.f us (ki : Int) = some us') : ∀ (d o p : Nat) (F : List S45), o + d = n → JoinI n o p F →
    Ev (fun k => spec_GiveBlock.l1 k (ki : Int) F (n : Int) fr us (p : Int) (o : Int)) ((n : Int), joinB d o p F, us', true)
  | 0, o, p, F, hd, hI => by
    have hlen := hI.len
    refine Ev.step (fun k => by rw [spec_GiveBlock.l1, if_neg (by omega)]) ?_
    exact Ev.bind (put_tells F (by omega) _ _) (ev_to_some hus (Ev.now _))
  | d + 1, o, p, F, hd, hI => by
    have hlen := hI.len
    have hn8 := hI.n8
    obtain ⟨r, e, hr⟩ := spec_at_tells F (by omega) (bud (p : Int) (o : Int)) (o : Int)
    refine Ev.step (fun k => by rw [spec_GiveBlock.l1, if_pos (by omega), spec_buddy_tells (p : Int) (o : Int) (by omega) (by omega), Option.bind_some]) ?_
    refine Ev.bind e ?_
    rw [joinB]
    rcases hr with ⟨rfl, hin⟩ | ⟨k, hk, rfl, hat, hin⟩
    · rw [if_neg (by rw [hin]; decide)]
      exact evp (by omega) (Ev.bind (put_tells F (by omega) _ _) (ev_to_some hus (Ev.now _)))
    · rw [if_pos hin]
      obtain ⟨q, q1, q2, q3, q4⟩ := join_bits (show o < 8 by omega) hI.lt256 hI.al
      have hlk := lackB_at F k hk hI.rise
      rw [hat] at hlk
      refine evn (nn k) (ev_to_some (without_tells F (by omega) k hk) ?_)
      refine evp (by rw [u64_small _ (by omega) (by omega)]; omega) ?_
      rw [u64_small _ (by omega) (by omega), q2, q1, Int.toNat_natCast, inc o (by omega), ← hlk]
      exact spec_join_l n ki fr us us' hus d (o + 1) q _ (by omega) (hI.up (by omega) _ q3 q4)
theorem impl_join_l (n : Nat) (us' : List S45) : ∀ (d o p : Nat) (F : List S45), o + d = n → JoinI n o p F →
    Ev (fun k => impl_GiveBlock.l0 k (p : Int) (o : Int) (n : Int) F us') ((n : Int), joinB d o p F, us', true)
  | 0, o, p, F, hd, hI => by
    have hlen := hI.len
    have hn8 := hI.n8
    have hfit := hI.fit
    obtain rfl : o = n := by omega
    obtain rfl : p = 0 := by omega
    have hno : inB F (bud ((0 : Nat) : Int) (o : Int)) (o : Int) = false := by
      rw [show bud ((0 : Nat) : Int) (o : Int) = 2 ^ o from bud_top o hn8]
      unfold inB
      rw [List.any_eq_false]
      intro y hy hyc
      rw [Bool.and_eq_true, beq_iff_eq, beq_iff_eq] at hyc
      obtain ⟨_, k2, _⟩ := hI.low y hy
      have := szB_pos y
      omega
    refine Ev.step (fun k => by rw [impl_GiveBlock.l0, impl_buddy_tells ((0 : Nat) : Int) (o : Int) (by omega) (by omega), Option.bind_some]) ?_
    refine Ev.bind (impl_has F (by omega) _ _) ?_
    rw [hno]
    exact evn (by decide) (ev_to_some (with_tells F (by omega) (rise_le hI.rise) _ _) (Ev.now _))
  | d + 1, o, p, F, hd, hI => by
    have hlen := hI.len
    have hn8 := hI.n8
    refine Ev.step (fun k => by rw [impl_GiveBlock.l0, impl_buddy_tells (p : Int) (o : Int) (by omega) (by omega), Option.bind_some]) ?_
    refine Ev.bind (impl_has F (by omega) _ _) ?_
    rw [joinB]
    cases hin : inB F (bud (p : Int) (o : Int)) (o : Int) with
    | false =>
      rw [if_neg (by decide)]
      exact evn (by decide) (ev_to_some (with_tells F (by omega) (rise_le hI.rise) _ _) (Ev.now _))
    | true =>
      rw [if_pos rfl]
      obtain ⟨q, q1, q2, q3, q4⟩ := join_bits (show o < 8 by omega) hI.lt256 hI.al
      refine evp rfl (ev_some (ev_to_some (lack_tells F (by omega) ⟨bud (p : Int) (o : Int), (o : Int)⟩) (ev_some ?_)))
      rw [q1, Int.toNat_natCast, inc o (by omega)]
      exact impl_join_l n us' d (o + 1) q _ (by omega) (hI.up (by omega) _ q3 q4)
theorem firstB_step (t : Int) (l : List S45) (i : Nat) (h : i < l.length) : firstB (fun y => y.f0 == t) (l.drop i) (i : Int) = if (l[i]).f0 = t then (i : Int) else firstB (fun y => y.f0 == t) (l.drop (i + 1)) ((i + 1 : Nat) : Int) := by
  rw [List.drop_eq_getElem_cons h, firstB]
  by_cases hc : (l[i]).f0 = t
  · rw [if_pos (by rw [hc]; exact beq_self_eq_true t), if_pos hc]
  · rw [if_neg (by rw [beq_iff_eq]; exact hc), if_neg hc]; rfl
theorem spec_first_l (n t : Int) (fr us : List S45) (hf : fr.length < 2 ^ 40) (hu : us.length < 2 ^ 40) (R : Int × List S45 × List S45 × Bool) (d : Nat) : ∀ i : Nat, i + d = us.length →
    (firstB (fun y => y.f0 == t) (us.drop i) (i : Int) = -1 → R = (0, [], [], false)) → (∀ k : Nat, (hk : k < us.length) → firstB (fun y => y.f0 == t) (us.drop i) (i : Int) = (k : Int) → Ev (fun q => spec_GiveBlock.l1 q (k : Int) fr n fr us (us[k]).f0 (us[k]).f1) R) →
    Ev (fun q => spec_GiveBlock.l0 q t us (us.length : Int) (i : Int) n fr us) R := by
  induction d with
  | zero =>
    intro i hi h1 _
    rw [List.drop_eq_nil_of_le (by omega), firstB] at h1
    rw [h1 rfl]
    exact Ev.step (fun k => by rw [spec_GiveBlock.l0, if_neg (by omega)]) (Ev.now _)
  | succ d ih =>
    intro i hi h1 h2
    have hlt : i < us.length := by omega
    rw [firstB_step t us i hlt] at h1
    by_cases hc : (us[i]).f0 = t
    · have h3 := h2 i hlt (by rw [firstB_step t us i hlt, if_pos hc])
      refine Ev.step (fun k => ?_) h3
      rw [spec_GiveBlock.l0, if_pos (by omega), if_pos (by omega), if_pos (by omega), rd_block, getb us i hlt, if_pos hc, Option.bind_some, if_pos (by rw [List.length_nil]; omega), List.nil_append]
    · rw [if_neg hc] at h1
      refine Ev.step (fun k => by rw [spec_GiveBlock.l0, if_pos (by omega), if_pos (by omega), if_pos (by omega), rd_block, getb us i hlt, if_neg hc, inc i (by omega)]) (ih (i + 1) (by omega) h1 (fun k hk he => h2 k hk ?_))
      rw [firstB_step t us i hlt, if_neg hc]; exact he
theorem firstB_cases (p : S45 → Bool) : ∀ (l : List S45) (i : Nat), firstB p l (i : Int) = -1 ∨ ∃ k : Nat, k < l.length ∧ firstB p l (i : Int) = ((i + k : Nat) : Int)
  | [], _ => .inl rfl
  | x :: l, i => by
    rw [firstB]
    split
    · exact .inr ⟨0, by simp, rfl⟩
    · rw [show (i : Int) + 1 = ((i + 1 : Nat) : Int) by omega]
      rcases firstB_cases p l (i + 1) with h | ⟨k, hk, h⟩
      · exact .inl h
      · exact .inr ⟨k + 1, by simpa using hk, by rw [h]; congr 1; omega⟩
/-- what both give -/
def giveB (a t : Int) (fr us : List S45) : Int × List S45 × List S45 × Bool :=
  if goodB a fr us = true then
    (if firstB (fun y => y.f0 == t) us 0 < 0 then (0, [], [], false)
    else (a, joinB (a.toNat - (us.getD (firstB (fun y => y.f0 == t) us 0).toNat z45).f1.toNat) (us.getD (firstB (fun y => y.f0 == t) us 0).toNat z45).f1.toNat (us.getD (firstB (fun y => y.f0 == t) us 0).toNat z45).f0.toNat fr, lackB us (us.getD (firstB (fun y => y.f0 == t) us 0).toNat z45), true))
  else (0, [], [], false)
theorem order_le {n m : Nat} (h : (2 : Int) ^ m ≤ 2 ^ n) : m ≤ n := by
  rcases Nat.lt_or_ge n m with hlt | hge
  · have h4 := pow_mono (show n + 1 ≤ m by omega)
    rw [Int.pow_succ] at h4
    have h5 : (1 : Int) ≤ 2 ^ n := by have := Nat.two_pow_pos n; rw [← pow_cast]; omega
    omega
  · exact hge
theorem joinI_start {n : Nat} (hn : n ≤ 8) {fr us : List S45} (hc1 : chainB (2 ^ n) 0 fr = true) (hc2 : chainB (2 ^ n) 0 us = true) (hf : fr.length < 2 ^ 38) {x : S45} (hx : x ∈ us) : ∃ o p : Nat, x.f0 = (p : Int) ∧ x.f1 = (o : Int) ∧ JoinI n o p fr := by
  obtain ⟨l1, l2, l3⟩ := chainB_low hc2 x hx
  obtain ⟨⟨b1, b2⟩, _, b4⟩ := blk_iff.mp l3
  obtain ⟨o, ho⟩ := Int.eq_ofNat_of_zero_le b1
  obtain ⟨p, hp⟩ := Int.eq_ofNat_of_zero_le l1
  have hsz : szB x = 2 ^ o := by unfold szB; rw [ho]; rfl
  rw [hp, ho] at b4
  rw [hp, hsz] at l2
  have hal : p % 2 ^ o = 0 := by
    rw [Int.tmod_eq_emod_of_nonneg (by omega), show ((o : Int)).toNat = o from rfl, ← pow_cast] at b4
    exact_mod_cast b4
  have hfit : p + 2 ^ o ≤ 2 ^ n := by rw [← pow_cast, ← pow_cast] at l2; exact_mod_cast l2
  refine ⟨o, p, hp, ho, order_le ?_, hn, hal, hfit, ahead_rise (chainB_pair hc1), fun y hy => chainB_low hc1 y hy, hf⟩
  omega
theorem giveB_tells (a t : Int) (fr us : List S45) (hf : fr.length < 2 ^ 38) (hu : us.length < 2 ^ 38) : Ev (fun k => spec_GiveBlock.f k a fr us t) (giveB a t fr us) ∧ Ev (fun k => impl_GiveBlock.f k a fr us t) (giveB a t fr us) := by
  unfold spec_GiveBlock.f impl_GiveBlock.f giveB
  have h1 := spec_goodB a fr us (by omega) (by omega)
  have h2 := impl_goodB a fr us hf hu
  have hfi : impl_Block_33.f us t = some (firstB (fun y => y.f0 == t) us 0) := rfl
  cases hg : goodB a fr us with
  | false =>
    rw [hg] at h1 h2
    rw [if_neg (by decide)]
    exact ⟨Ev.bind h1 (evn (by decide) (Ev.now _)), ev_to_some hfi (Ev.bind h2 (evn (by decide) (Ev.step (fun k => by rw [impl_GiveBlock.j0, if_pos rfl]) (Ev.now _))))⟩
  | true =>
    rw [hg] at h1 h2
    rw [if_pos rfl]
    obtain ⟨ha, hc1, hc2⟩ := good_chains hg
    obtain ⟨n, rfl⟩ := Int.eq_ofNat_of_zero_le ha.1
    rw [Int.toNat_natCast] at hc1 hc2
    have S1 := fun R => spec_first_l (n : Int) t fr us (by omega) (by omega) R us.length 0 (by omega)
    simp only [List.drop_zero, show ((0 : Nat) : Int) = 0 from rfl] at S1
    have hcs := firstB_cases (fun y => y.f0 == t) us 0
    rw [show ((0 : Nat) : Int) = 0 from rfl] at hcs
    generalize firstB (fun y => y.f0 == t) us 0 = b at hfi S1 hcs
    rcases hcs with rfl | ⟨k, hk, rfl⟩
    · rw [if_pos (by decide)]
      exact ⟨Ev.bind h1 (evp rfl (S1 _ (fun _ => rfl) (fun k _ h => by omega))), ev_to_some hfi (Ev.bind h2 (evp rfl (Ev.step (fun k => by rw [impl_GiveBlock.j0, if_pos (by decide)]) (Ev.now _))))⟩
    · rw [Nat.zero_add] at hfi S1 ⊢
      rw [if_neg (nn k)]
      simp only [Int.toNat_natCast, getb us k hk]
      obtain ⟨o, p, hp, ho, hI⟩ := joinI_start (show n ≤ 8 by omega) hc1 hc2 hf (List.getElem_mem hk)
      have hlk := lackB_at us k hk (ahead_rise (chainB_pair hc2))
      have hon := hI.on
      simp only [hp, ho, Int.toNat_natCast]
      refine ⟨Ev.bind h1 (evp rfl (S1 _ (fun h => by omega) (fun k' hk' he => ?_))), ev_to_some hfi (Ev.bind h2 (evp rfl (Ev.step (fun q => by rw [impl_GiveBlock.j0, decide_eq_false (nn k), if_neg (by decide), if_pos (by omega), if_pos (by omega), rd_block, getb us k hk]) ?_)))⟩
      · obtain rfl : k = k' := by omega
        rw [hp, ho]
        exact spec_join_l n k fr us _ (by rw [hlk]; exact without_tells us (by omega) k hk) (n - o) o p fr (by omega) hI
      · refine ev_to_some (show impl_Block_35.f fr = some fr by unfold impl_Block_35.f; rw [if_pos (by omega)]) (ev_to_some (lack_tells us (by omega) us[k]) ?_)
        rw [hp, ho]
        exact impl_join_l n _ (n - o) o p fr (by omega) hI
theorem giveB_length (a t : Int) (fr us : List S45) (hf : fr.length < 2 ^ 38) (hu : us.length < 2 ^ 38) : (giveB a t fr us).2.1.length < 2 ^ 40 ∧ (giveB a t fr us).2.2.1.length < 2 ^ 40 := by
  unfold giveB
  split
  · split
    · exact ⟨by simp, by simp⟩
    · refine ⟨Nat.lt_of_le_of_lt (joinB_length _ _ _ _) (by omega), Nat.lt_of_le_of_lt (lackB_length _ _) (by omega)⟩
  · exact ⟨by simp, by simp⟩
theorem both_GiveBlock (a : Int) (fr us : List S45) (n : Int) (hf : fr.length < 2 ^ 38) (hu : us.length < 2 ^ 38) : ∃ rb x y ok, x.length < 2 ^ 40 ∧ y.length < 2 ^ 40 ∧ Ev (fun k => spec_GiveBlock.f k a fr us n) (rb, x, y, ok) ∧ Ev (fun k => impl_GiveBlock.f k a fr us n) (rb, x, y, ok) := by
  obtain ⟨h1, h2⟩ := giveB_tells a n fr us hf hu
  obtain ⟨l1, l2⟩ := giveB_length a n fr us hf hu
  exact ⟨_, _, _, _, l1, l2, h1, h2⟩

theorem FnExactGiveBlock : laws_FnExactGiveBlock.PureG := by
  intro a fr us n ha hf hu hn
  refine Ev.rounds ?_
  obtain ⟨r, h1, h2⟩ := sz_buddy a fr us hf.1 hu.1
  unfold laws_FnExactGiveBlock.f
  refine ev_to_some h1 ?_
  by_cases hr : r < 0
  · exact evp hr (Ev.now _)
  · obtain ⟨hlf2, hlu2⟩ : fr.length < 2 ^ 30 ∧ us.length < 2 ^ 30 := by omega
    obtain ⟨hlf, hlu⟩ : fr.length < 2 ^ 40 ∧ us.length < 2 ^ 40 := by omega
    have T := to_buddy a fr us hlf hlu
    have m1 : (fr.map convBlock).length < 2 ^ 40 := by rw [List.length_map]; exact hlf
    have m2 : (us.map convBlock).length < 2 ^ 40 := by rw [List.length_map]; exact hlu
    obtain ⟨rb, x, y, ok, hxl, hyl, e1, e2⟩ := both_GiveBlock a (fr.map convBlock) (us.map convBlock) n (by rw [List.length_map]; omega) (by rw [List.length_map]; omega)
    have QX := eq_buddy rb x y hxl hyl
    obtain ⟨us1, vs1, k1, _, _, _, _⟩ := marked_buddy a (fr.map convBlock) (us.map convBlock) m1 m2
    obtain ⟨us2, vs2, k2, l2, l3, k4, k5⟩ := marked_buddy rb x y hxl hyl
    have H := held_buddy rb _ _ us2 vs2 k4 k5
    refine evn hr (Ev.bind T (Ev.bind e1 (Ev.bind T (Ev.bind e2 (Ev.bind QX (evp rfl ?_))))))
    rw [bne_self_eq_false]
    refine Ev.step (fun k => by rw [laws_FnExactGiveBlock.j0, if_neg (by decide)]) (Ev.bind T (Ev.bind (eq_buddy a _ _ m1 m2) (evp rfl (Ev.bind k1 (evn (nn _) (Ev.bind QX (evp rfl ?_)))))))
    rw [bne_self_eq_false]
    refine Ev.step (fun k => by rw [laws_FnExactGiveBlock.j1, if_neg (by decide)]) (Ev.bind k2 (Ev.bind H (evn (nn _) (evp rfl (Ev.bind T (Ev.bind e2 (Ev.bind QX (evp rfl ?_))))))))
    rw [bne_self_eq_false]
    exact Ev.step (fun k => by rw [laws_FnExactGiveBlock.j2, if_neg (by decide)]) (Ev.bind H (evn (nn _) (evp rfl (Ev.now _))))

end Go.Proofs.Ytbjcioihomeikaa.Pure
