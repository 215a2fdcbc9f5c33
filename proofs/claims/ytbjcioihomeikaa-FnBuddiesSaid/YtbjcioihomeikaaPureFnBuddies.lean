/- The laws of buddies hold of the drawn buddies; no condition. -/
import Derived.Test.YtbjcioihomeikaaQFnBuddiesx18
import Derived.OpenShut
set_option linter.unusedVariables false
set_option linter.unusedSimpArgs false
namespace Go.Proofs.Ytbjcioihomeikaa.Pure
open Go.RowKit Go.Proofs.Ytbjcioihomeikaa.PFnBuddies Go.Proofs.YtbjcioihomeikaaW.PrintWords Go.Proofs.YtbjcioihomeikaaW.PrintLast Go.Proofs.YtbjcioihomeikaaW.PrintMore 

theorem inc (j : Nat) (hj : j < 2 ^ 62) : wrap64 ((j : Int) + 1) = ((j + 1 : Nat) : Int) := by unfold wrap64; omega
theorem nn (n : Nat) : ¬ ((n : Int) < 0) := by omega

theorem within_tells (a b c : Int) : impl_within.f a b c = some (decide (a ≥ b ∧ a ≤ c)) := by
 unfold impl_within.f
 split
 ·rename_i h; simp [h]
 ·rename_i h; simp [h]
theorem l1In_tells (a b c : Int) : spec_l1In.f a b c = some (decide (a ≥ b ∧ a ≤ c)) := by
 unfold spec_l1In.f
 split
 ·rename_i h; simp [h]
 ·rename_i h; simp [h]

theorem evp {α : Type} {c : Prop} [Decidable c] {f g : Nat → Option α} {r : α} (h : c) (k : Ev f r) : Ev (fun n => if c then f n else g n) r := Ev.congr (fun _ => if_pos h) k
theorem evn {α : Type} {c : Prop} [Decidable c] {f g : Nat → Option α} {r : α} (h : ¬ c) (k : Ev g r) : Ev (fun n => if c then f n else g n) r := Ev.congr (fun _ => if_neg h) k
theorem ev_some {α β : Type} {a : α} {f : Nat → α → Option β} {r : β} (h : Ev (fun n => f n a) r) : Ev (fun n => (some a).bind (f n)) r := h
theorem ev_to_some {α β : Type} {o : Option α} {a : α} {f : Nat → α → Option β} {r : β} (ho : o = some a) (h : Ev (fun n => f n a) r) : Ev (fun n => o.bind (f n)) r := by subst ho; exact h
theorem shl_sz (o : Nat) (h : o ≤ 8) : shl .i64 1 (o : Int) = ((2 ^ o : Nat) : Int) := by
 have : ∀ o : Nat, o ≤ 8 → shl .i64 1 (o : Int) = ((2 ^ o : Nat) : Int) := by
  intro o ho
  match o, ho with
  | 0, _ => rfl
  | 1, _ => rfl
  | 2, _ => rfl
  | 3, _ => rfl
  | 4, _ => rfl
  | 5, _ => rfl
  | 6, _ => rfl
  | 7, _ => rfl
  | 8, _ => rfl
 exact this o h
theorem u64_small (x : Int) (h0 : 0 ≤ x) (h1 : x < 2 ^ 62) : IntKind.u64.wrap x = x := by
 simp [IntKind.wrap, IntKind.bits, IntKind.signed]; omega
/-- is it a block, as both say it -/
def blk (a o : Int) : Bool := decide (0 ≤ o ∧ o ≤ 8) && (decide (0 ≤ a ∧ a ≤ 1073741824) && (Int.tmod a (2 ^ o.toNat) == 0))
theorem pow_cast (n : Nat) : ((2 ^ n : Nat) : Int) = (2 : Int) ^ n := by simp
theorem pow_ne (n : Nat) : ¬ ((2 : Int) ^ n = 0) := by
 have := Nat.two_pow_pos n
 rw [← pow_cast]; omega
theorem spec_block_tells (a o : Int) : spec_l6Block.f a o = some (blk a o) := by
 unfold spec_l6Block.f blk
 rw [l1In_tells, l1In_tells]
 simp only [Option.bind_some, ge_iff_le]
 by_cases h : 0 ≤ o ∧ o ≤ 8
 ·obtain ⟨n, rfl⟩ := Int.eq_ofNat_of_zero_le h.1
  rw [decide_eq_true h, if_pos rfl, u64_small _ (by omega) (by omega), shl_sz n (by omega)]
  by_cases h2 : 0 ≤ a ∧ a ≤ 1073741824
  ·rw [decide_eq_true h2, if_pos rfl, if_pos h.1, pow_cast, if_neg (pow_ne n), Int.toNat_natCast]
   rfl
  ·rw [decide_eq_false h2]; rfl
 ·rw [decide_eq_false h]; rfl
theorem impl_block_tells (a o : Int) : impl_isBlock.f a o = some (blk a o) := by
 unfold impl_isBlock.f blk
 rw [within_tells, within_tells]
 simp only [Option.bind_some, ge_iff_le]
 by_cases h : 0 ≤ o ∧ o ≤ 8
 ·obtain ⟨n, rfl⟩ := Int.eq_ofNat_of_zero_le h.1
  rw [decide_eq_true h, if_pos rfl]
  by_cases h2 : 0 ≤ a ∧ a ≤ 1073741824
  ·unfold impl_Block_size.f
   rw [decide_eq_true h2, if_pos rfl, if_pos h.1, shl_sz n (by omega), pow_cast]
   simp only [Option.bind_some]
   rw [if_neg (pow_ne n), Int.toNat_natCast]
   rfl
  ·rw [decide_eq_false h2]; rfl
 ·rw [decide_eq_false h]; rfl
/-- the buddy's place -/
def bud (a o : Int) : Int := Go.bits .xor .i64 a ((2 ^ o.toNat : Nat) : Int)
theorem spec_buddy_tells (a o : Int) (h0 : 0 ≤ o) (h : o ≤ 8) : spec_l6Buddy.f a o = some (bud a o, o) := by
 obtain ⟨n, rfl⟩ := Int.eq_ofNat_of_zero_le h0
 unfold spec_l6Buddy.f bud
 rw [u64_small _ (by omega) (by omega), if_pos h0, shl_sz n (by omega), Int.toNat_natCast]
theorem impl_buddy_tells (a o : Int) (h0 : 0 ≤ o) (h : o ≤ 8) : impl_Block_buddy.f a o = some (bud a o, o) := by
 obtain ⟨n, rfl⟩ := Int.eq_ofNat_of_zero_le h0
 unfold impl_Block_buddy.f impl_Block_size.f bud
 rw [if_pos h0, shl_sz n (by omega), Int.toNat_natCast]
 rfl
theorem blk_order {a o : Int} (h : blk a o = true) : 0 ≤ o ∧ o ≤ 8 := by
 unfold blk at h
 rw [Bool.and_eq_true] at h
 exact of_decide_eq_true h.1

theorem rd_block (xs : List S45) (i : Nat) : rd_T45 xs (i : Int) = xs.getD i z45 := by unfold rd_T45; rw [Int.toNat_natCast]

/-- a block's length -/
def szB (x : S45) : Int := (2 : Int) ^ x.f1.toNat
theorem szB_pos (x : S45) : 1 ≤ szB x := by
 unfold szB
 have := Nat.two_pow_pos x.f1.toNat
 have h := pow_cast x.f1.toNat
 omega
def blkB (x : S45) : Bool := blk x.f0 x.f1
theorem blk_iff {x : S45} : blkB x = true ↔ (0 ≤ x.f1 ∧ x.f1 ≤ 8) ∧ (0 ≤ x.f0 ∧ x.f0 ≤ 1073741824) ∧ Int.tmod x.f0 (2 ^ x.f1.toNat) = 0 := by
 unfold blkB blk
 rw [Bool.and_eq_true, Bool.and_eq_true, decide_eq_true_eq, decide_eq_true_eq, beq_iff_eq]
theorem pow_le8 (n : Nat) (h : n ≤ 8) : (2 : Int) ^ n ≤ 256 := by
 rw [← pow_cast]
 have := Nat.pow_le_pow_right (show 0 < 2 by omega) h
 omega
theorem szB_le {x : S45} (h : blkB x = true) : szB x ≤ 256 := by
 have := (blk_iff.mp h).1
 exact pow_le8 _ (by omega)
/-- blocks that follow each other without gap, from a on: where they end -/
def tile : Int → List S45 → Option Int
 | a, [] => some a
 | a, x :: l => if blkB x = true ∧ x.f0 = a then tile (a + szB x) l else none
/-- blocks that rise, from p on, within so many bytes -/
def chainB (B : Int) : Int → List S45 → Bool
 | _, [] => true
 | p, x :: l => (blkB x && decide (p ≤ x.f0 ∧ x.f0 + szB x ≤ B)) && chainB B (x.f0 + szB x) l
def sumB : List S45 → Int
 | [] => 0
 | x :: l => szB x + sumB l
theorem sumB_nonneg : ∀ l : List S45, 0 ≤ sumB l
 | [] => Int.le_refl 0
 | x :: l => by have := sumB_nonneg l; have := szB_pos x; rw [sumB]; omega
theorem sumB_append : ∀ l m : List S45, sumB (l ++ m) = sumB l + sumB m
 | [], m => by rw [List.nil_append, sumB]; omega
 | x :: l, m => by rw [List.cons_append, sumB, sumB, sumB_append l m]; omega
theorem sumB_perm {l m : List S45} (h : List.Perm l m) : sumB l = sumB m := by
 induction h with
 | nil => rfl
 | cons x _ ih => rw [sumB, sumB, ih]
 | swap x y l => rw [sumB, sumB, sumB, sumB]; omega
 | trans _ _ h1 h2 => exact h1.trans h2
theorem chainB_cons {B p : Int} {x : S45} {l : List S45} (h : chainB B p (x :: l) = true) : blkB x = true ∧ (p ≤ x.f0 ∧ x.f0 + szB x ≤ B) ∧ chainB B (x.f0 + szB x) l = true := by
 rw [chainB, Bool.and_eq_true, Bool.and_eq_true, decide_eq_true_eq] at h
 exact ⟨h.1.1, h.1.2, h.2⟩
theorem chainB_mk {B p : Int} {x : S45} {l : List S45} (h1 : blkB x = true) (h2 : p ≤ x.f0 ∧ x.f0 + szB x ≤ B) (h3 : chainB B (x.f0 + szB x) l = true) : chainB B p (x :: l) = true := by
 rw [chainB, Bool.and_eq_true, Bool.and_eq_true, decide_eq_true_eq]
 exact ⟨⟨h1, h2⟩, h3⟩
theorem chainB_sum {B : Int} : ∀ {l : List S45} {p : Int}, p ≤ B → chainB B p l = true → p + sumB l ≤ B
 | [], p, hp, _ => by rw [sumB]; omega
 | x :: l, p, hp, h => by
  obtain ⟨_, h2, h3⟩ := chainB_cons h
  have := chainB_sum h2.2 h3
  rw [sumB]; omega
theorem chainB_tile {B : Int} : ∀ {l : List S45} {p : Int}, p ≤ B → chainB B p l = true → p + sumB l = B → tile p l = some B
 | [], p, hp, _, h => by rw [sumB] at h; rw [tile]; congr 1; omega
 | x :: l, p, hp, h, hs => by
  obtain ⟨h1, h2, h3⟩ := chainB_cons h
  have := chainB_sum h2.2 h3
  rw [sumB] at hs
  have e : x.f0 = p := by omega
  rw [tile, if_pos ⟨h1, e⟩, ← e]
  exact chainB_tile h2.2 h3 (by omega)
theorem tile_cons {p : Int} {x : S45} {l : List S45} {r : Int} (h : tile p (x :: l) = some r) : blkB x = true ∧ x.f0 = p ∧ tile (p + szB x) l = some r := by
 rw [tile] at h
 split at h
 ·rename_i hc; exact ⟨hc.1, hc.2, h⟩
 ·cases h
theorem tile_chain : ∀ {l : List S45} {p r : Int}, tile p l = some r → chainB r p l = true ∧ p + sumB l = r
 | [], p, r, h => by
  rw [tile] at h
  obtain rfl := Option.some.inj h
  exact ⟨rfl, by rw [sumB]; omega⟩
 | x :: l, p, r, h => by
  obtain ⟨h1, h2, h3⟩ := tile_cons h
  obtain ⟨i1, i2⟩ := tile_chain h3
  have := sumB_nonneg l
  refine ⟨chainB_mk h1 ⟨by omega, by omega⟩ (by rw [h2]; exact i1), by rw [sumB]; omega⟩
/-- all blocks of a chain lie apart and rise -/
def aheadB (x y : S45) : Prop := x.f0 + szB x ≤ y.f0
theorem chainB_low {B : Int} : ∀ {l : List S45} {p : Int}, chainB B p l = true → ∀ y ∈ l, p ≤ y.f0 ∧ y.f0 + szB y ≤ B ∧ blkB y = true
 | [], _, _, y, hy => by cases hy
 | x :: l, p, h, y, hy => by
  obtain ⟨h1, h2, h3⟩ := chainB_cons h
  rcases List.mem_cons.mp hy with rfl | hy
  ·exact ⟨h2.1, h2.2, h1⟩
  ·have h4 := chainB_low h3 y hy
   have := szB_pos x
   exact ⟨by omega, h4.2.1, h4.2.2⟩
theorem chainB_pair {B : Int} : ∀ {l : List S45} {p : Int}, chainB B p l = true → List.Pairwise aheadB l
 | [], _, _ => List.Pairwise.nil
 | x :: l, p, h => by
  obtain ⟨_, _, h3⟩ := chainB_cons h
  exact List.Pairwise.cons (fun y hy => (chainB_low h3 y hy).1) (chainB_pair h3)
theorem pair_chainB {B : Int} : ∀ {l : List S45} {p : Int}, List.Pairwise aheadB l → (∀ y ∈ l, p ≤ y.f0 ∧ y.f0 + szB y ≤ B ∧ blkB y = true) → chainB B p l = true
 | [], _, _, _ => rfl
 | x :: l, p, h, hy => by
  have hx := hy x List.mem_cons_self
  refine chainB_mk hx.2.2 ⟨hx.1, hx.2.1⟩ (pair_chainB (List.Pairwise.of_cons h) (fun y hyl => ?_))
  have := hy y (List.mem_cons_of_mem _ hyl)
  exact ⟨List.rel_of_pairwise_cons h hyl, this.2⟩
/-- two blocks lie apart -/
def apartB (x y : S45) : Prop := x.f0 + szB x ≤ y.f0 ∨ y.f0 + szB y ≤ x.f0
theorem apartB_symm {x y : S45} (h : apartB x y) : apartB y x := h.symm
def riseB (x y : S45) : Prop := x.f0 < y.f0
theorem apart_ahead {l : List S45} (h1 : List.Pairwise apartB l) (h2 : List.Pairwise (fun x y => x.f0 ≤ y.f0) l) : List.Pairwise aheadB l := by
 refine (List.Pairwise.and h1 h2).imp (fun {x y} h => ?_)
 have := szB_pos x
 have := szB_pos y
 rcases h.1 with h3 | h3
 ·exact h3
 ·have := h.2; omega
/-- what both say of a list of blocks, sorted, and of two lists of which it is made -/
theorem tile_iff {B : Int} (hB : 0 ≤ B) {fr us s : List S45} (hp : List.Perm s (fr ++ us)) (hs : List.Pairwise (fun x y => x.f0 ≤ y.f0) s) :
  (List.Pairwise riseB fr ∧ List.Pairwise riseB us ∧ tile 0 s = some B) ↔ (chainB B 0 fr = true ∧ chainB B 0 us = true ∧ sumB fr + sumB us = B ∧ ∀ x ∈ fr, ∀ y ∈ us, apartB x y) := by
 constructor
 ·rintro ⟨hf, hu, ht⟩
  obtain ⟨c1, c2⟩ := tile_chain ht
  have hap : List.Pairwise apartB s := (chainB_pair c1).imp (fun h => Or.inl h)
  have hap2 : List.Pairwise apartB (fr ++ us) := hp.pairwise hap (fun h => apartB_symm h)
  obtain ⟨pf, pu, px⟩ := List.pairwise_append.mp hap2
  have hlow : ∀ y ∈ fr ++ us, 0 ≤ y.f0 ∧ y.f0 + szB y ≤ B ∧ blkB y = true := fun y hy => chainB_low c1 y (hp.mem_iff.mpr hy)
  refine ⟨pair_chainB (apart_ahead pf (hf.imp (fun h => Int.le_of_lt h))) (fun y hy => hlow y (List.mem_append_left _ hy)), pair_chainB (apart_ahead pu (hu.imp (fun h => Int.le_of_lt h))) (fun y hy => hlow y (List.mem_append_right _ hy)), ?_, px⟩
  rw [← sumB_append, ← sumB_perm hp]
  omega
 ·rintro ⟨cf, cu, hsum, hx⟩
  have pf := chainB_pair cf
  have pu := chainB_pair cu
  have hap2 : List.Pairwise apartB (fr ++ us) := List.pairwise_append.mpr ⟨pf.imp (fun h => Or.inl h), pu.imp (fun h => Or.inl h), hx⟩
  have hap : List.Pairwise apartB s := hp.symm.pairwise hap2 (fun h => apartB_symm h)
  have hlow : ∀ y ∈ s, 0 ≤ y.f0 ∧ y.f0 + szB y ≤ B ∧ blkB y = true := fun y hy => by
   rcases List.mem_append.mp (hp.mem_iff.mp hy) with h | h
   ·exact chainB_low cf y h
   ·exact chainB_low cu y h
  have rise : ∀ {l : List S45}, List.Pairwise aheadB l → List.Pairwise riseB l := fun h => h.imp (fun {x y} h => by have := szB_pos x; unfold aheadB at h; unfold riseB; omega)
  refine ⟨rise pf, rise pu, chainB_tile hB (pair_chainB (apart_ahead hap hs) hlow) ?_⟩
  rw [sumB_perm hp, sumB_append]
  omega

theorem getb (l : List S45) (i : Nat) (h : i < l.length) : l.getD i z45 = l[i] := by rw [List.getD_eq_getElem?_getD, List.getElem?_eq_getElem h]; rfl
theorem szB_shl {x : S45} (h : blkB x = true) : shl .i64 1 (IntKind.u64.wrap x.f1) = szB x ∧ 0 ≤ IntKind.u64.wrap x.f1 ∧ 0 ≤ x.f1 := by
 have h1 := (blk_iff.mp h).1
 obtain ⟨n, hn⟩ := Int.eq_ofNat_of_zero_le h1.1
 unfold szB
 rw [hn, u64_small _ (by omega) (by omega), shl_sz n (by omega), Int.toNat_natCast, pow_cast]
 exact ⟨rfl, by omega, by omega⟩
theorem szB_shl' {x : S45} (h : blkB x = true) : shl .i64 1 x.f1 = szB x := by
 have h1 := (blk_iff.mp h).1
 obtain ⟨n, hn⟩ := Int.eq_ofNat_of_zero_le h1.1
 unfold szB
 rw [hn, shl_sz n (by omega), Int.toNat_natCast, pow_cast]
theorem spec_list_l (l : List S45) (hl : l.length < 2 ^ 40) (B : Int) (hB0 : 0 ≤ B) (hB1 : B ≤ 256) (d : Nat) : ∀ (i : Nat) (S p : Int), i + d = l.length → 0 ≤ S → S ≤ 256 * (i : Int) →
  (i = 0 ∧ p = 0 ∨ 0 < i ∧ blkB (l.getD (i - 1) z45) = true ∧ p = (l.getD (i - 1) z45).f0 + szB (l.getD (i - 1) z45)) →
  Ev (fun k => spec_l6List.l0 k l B S l (l.length : Int) (i : Int)) (if chainB B p (l.drop i) = true then (S + sumB (l.drop i), true) else (0, false)) := by
 induction d with
 | zero =>
  intro i S p hi _ _ _
  rw [List.drop_eq_nil_of_le (by omega), chainB, if_pos rfl, sumB, Int.add_zero]
  exact Ev.step (fun k => by simp only [spec_l6List.l0]; rw [if_neg (by omega)]) (Ev.now _)
 | succ d ih =>
  intro i S p hi h0 h1 hp
  have hlt : i < l.length := by omega
  rw [List.drop_eq_getElem_cons hlt, chainB, sumB]
  have hg := getb l i hlt
  refine Ev.step (fun k => by simp only [spec_l6List.l0]; rw [if_pos (by omega), if_pos (by omega), if_pos (by omega), rd_block, hg, spec_block_tells]) (ev_some ?_)
  show Ev (fun k => if blkB l[i] = true then _ else _) _
  cases hb : blkB l[i] with
  | false => exact evn (by decide) (by rw [Bool.false_and, Bool.false_and, if_neg (by decide)]; exact Ev.now _)
  | true =>
   obtain ⟨s1, s2, _⟩ := szB_shl hb
   have q1 := szB_pos l[i]
   have q2 := szB_le hb
   have q3 := (blk_iff.mp hb).2.1
   rw [Bool.true_and]
   refine evp rfl (evp s2 ?_)
   rw [s1]
   have w1 : wrap64 (B - szB l[i]) = B - szB l[i] := by unfold wrap64; omega
   have w2 : wrap64 (S + szB l[i]) = S + szB l[i] := by unfold wrap64; omega
   rw [w1, w2]
   by_cases h2 : (l[i]).f0 + szB l[i] ≤ B
   ·refine evn (by omega) ?_
    have go := ih (i + 1) (S + szB l[i]) ((l[i]).f0 + szB l[i]) (by omega) (by omega) (by omega) (Or.inr ⟨by omega, by rw [Nat.add_sub_cancel, hg]; exact hb, by rw [Nat.add_sub_cancel, hg]⟩)
    rw [Int.add_assoc] at go
    rcases hp with ⟨rfl, rfl⟩ | ⟨hpos, hpb, rfl⟩
    ·refine evn (by omega) ?_
     simp only [show decide ((0 : Int) ≤ (l[0]).f0 ∧ (l[0]).f0 + szB l[0] ≤ B) = true from decide_eq_true ⟨q3.1, h2⟩, Bool.true_and]
     rw [inc 0 (by omega)]
     exact go
    ·have w3 : wrap64 ((i : Int) - 1) = ((i - 1 : Nat) : Int) := by unfold wrap64; omega
     obtain ⟨r1, r2, _⟩ := szB_shl hpb
     have q4 := szB_pos (l.getD (i - 1) z45)
     have q5 := szB_le hpb
     have q6 := (blk_iff.mp hpb).2.1
     rw [w3, rd_block]
     refine evp (by omega) (evp (by omega) (evp (by omega) (evp r2 ?_)))
     rw [r1]
     have w4 : wrap64 ((l.getD (i - 1) z45).f0 + szB (l.getD (i - 1) z45)) = (l.getD (i - 1) z45).f0 + szB (l.getD (i - 1) z45) := by unfold wrap64; omega
     rw [w4]
     by_cases h3 : (l.getD (i - 1) z45).f0 + szB (l.getD (i - 1) z45) ≤ (l[i]).f0
     ·refine evn (by omega) ?_
      rw [decide_eq_true (show (l.getD (i - 1) z45).f0 + szB (l.getD (i - 1) z45) ≤ (l[i]).f0 ∧ (l[i]).f0 + szB l[i] ≤ B by omega), Bool.true_and, inc i (by omega)]
      exact go
     ·refine evp (by omega) ?_
      rw [decide_eq_false (fun h => h3 h.1), Bool.false_and, if_neg (by decide)]
      exact Ev.now _
   ·refine evp (by omega) ?_
    rw [decide_eq_false (fun h => h2 h.2), Bool.false_and, if_neg (by decide)]
    exact Ev.now _
theorem spec_list (l : List S45) (hl : l.length < 2 ^ 40) (B : Int) (hB0 : 0 ≤ B) (hB1 : B ≤ 256) : Ev (fun k => spec_l6List.f k l B) (if chainB B 0 l = true then (sumB l, true) else (0, false)) := by
 have := spec_list_l l hl B hB0 hB1 l.length 0 0 0 (by omega) (by omega) (by omega) (Or.inl ⟨rfl, rfl⟩)
 rw [List.drop_zero, Int.zero_add] at this
 exact this
/-- is there such a block -/
def inB (l : List S45) (a o : Int) : Bool := l.any fun y => (y.f0 == a) && (y.f1 == o)
theorem spec_at_l (l : List S45) (hl : l.length < 2 ^ 40) (a o : Int) (d : Nat) : ∀ i : Nat, i + d = l.length → ∃ r, Ev (fun k => spec_l6At.l0 k l (l.length : Int) (i : Int) a o) r ∧ decide (r ≥ 0) = inB (l.drop i) a o := by
 induction d with
 | zero =>
  intro i hi
  rw [List.drop_eq_nil_of_le (by omega)]
  exact ⟨-1, Ev.step (fun k => by simp only [spec_l6At.l0]; rw [if_neg (by omega)]) (Ev.now _), rfl⟩
 | succ d ih =>
  intro i hi
  have hlt : i < l.length := by omega
  obtain ⟨r, e, hr⟩ := ih (i + 1) (by omega)
  rw [List.drop_eq_getElem_cons hlt]
  unfold inB at hr ⊢
  rw [List.any_cons]
  cases hc : ((l[i]).f0 == a) && ((l[i]).f1 == o) with
  | true => exact ⟨(i : Int), Ev.step (fun k => by simp only [spec_l6At.l0]; rw [if_pos (by omega), if_pos (by omega), if_pos (by omega), rd_block, getb l i hlt, hc, if_pos rfl]) (Ev.now _), by rw [Bool.true_or]; exact decide_eq_true (by omega)⟩
  | false => exact ⟨r, Ev.step (fun k => by simp only [spec_l6At.l0]; rw [if_pos (by omega), if_pos (by omega), if_pos (by omega), rd_block, getb l i hlt, hc, if_neg (by decide), inc i (by omega)]) e, by rw [Bool.false_or]; exact hr⟩
theorem impl_has_l (l : List S45) (hl : l.length < 2 ^ 40) (a o : Int) (d : Nat) : ∀ i : Nat, i + d = l.length → ∃ r, Ev (fun k => impl_Block_61.l0 k l (l.length : Int) (i : Int) a o) r ∧ decide (r ≥ 0) = inB (l.drop i) a o := by
 induction d with
 | zero =>
  intro i hi
  rw [List.drop_eq_nil_of_le (by omega)]
  exact ⟨-1, Ev.step (fun k => by simp only [impl_Block_61.l0]; rw [if_neg (by omega)]) (Ev.now _), rfl⟩
 | succ d ih =>
  intro i hi
  have hlt : i < l.length := by omega
  obtain ⟨r, e, hr⟩ := ih (i + 1) (by omega)
  rw [List.drop_eq_getElem_cons hlt]
  unfold inB at hr ⊢
  rw [List.any_cons]
  have hsw : ((a == (l[i]).f0) && (o == (l[i]).f1)) = (((l[i]).f0 == a) && ((l[i]).f1 == o)) := by rw [Bool.beq_comm (a := a), Bool.beq_comm (a := o)]
  cases hc : ((l[i]).f0 == a) && ((l[i]).f1 == o) with
  | true => exact ⟨(i : Int), Ev.step (fun k => by simp only [impl_Block_61.l0]; rw [if_pos (by omega), if_pos (by omega), if_pos (by omega), rd_block, getb l i hlt, hsw, hc, if_pos rfl]) (Ev.now _), by rw [Bool.true_or]; exact decide_eq_true (by omega)⟩
  | false => exact ⟨r, Ev.step (fun k => by simp only [impl_Block_61.l0]; rw [if_pos (by omega), if_pos (by omega), if_pos (by omega), rd_block, getb l i hlt, hsw, hc, if_neg (by decide), inc i (by omega)]) e, by rw [Bool.false_or]; exact hr⟩
theorem impl_has (l : List S45) (hl : l.length < 2 ^ 40) (a o : Int) : Ev (fun k => impl_Block_37.f k l a o) (inB l a o) := by
 obtain ⟨r, e, hr⟩ := impl_has_l l hl a o l.length 0 (by omega)
 rw [List.drop_zero] at hr
 unfold impl_Block_37.f
 rw [← hr]
 exact Ev.bind e (Ev.now _)
/-- two blocks apart, as a test -/
def apB (x y : S45) : Bool := decide (x.f0 + szB x ≤ y.f0 ∨ y.f0 + szB y ≤ x.f0)
theorem spec_apart (x48 : List S45) (L i ord : Int) (fr us : List S45) (hl : us.length < 2 ^ 40) (hus : ∀ y ∈ us, blkB y = true) (x : S45) (hx : blkB x = true) (R : Bool) (hR : Ev (fun k => spec_GoodBuddy.l0 k x48 L (wrap64 (i + 1)) ord fr us) R) (d : Nat) : ∀ j : Nat, j + d = us.length →
  Ev (fun k => spec_GoodBuddy.l1 k x48 L i us (us.length : Int) (j : Int) ord fr us x.f0 x.f1) ((us.drop j).all (apB x) && R) := by
 obtain ⟨s1, s2, _⟩ := szB_shl hx
 have q1 := szB_pos x
 have q2 := szB_le hx
 have q3 := (blk_iff.mp hx).2.1
 induction d with
 | zero =>
  intro j hj
  rw [List.drop_eq_nil_of_le (by omega), List.all_nil, Bool.true_and]
  exact Ev.step (fun k => by simp only [spec_GoodBuddy.l1]; rw [if_neg (by omega)]) hR
 | succ d ih =>
  intro j hj
  have hlt : j < us.length := by omega
  have hy := hus _ (List.getElem_mem hlt)
  obtain ⟨r1, r2, _⟩ := szB_shl hy
  have q4 := szB_pos us[j]
  have q5 := szB_le hy
  have q6 := (blk_iff.mp hy).2.1
  have w1 : wrap64 ((us[j]).f0 + szB us[j]) = (us[j]).f0 + szB us[j] := by unfold wrap64; omega
  have w2 : wrap64 (x.f0 + szB x) = x.f0 + szB x := by unfold wrap64; omega
  rw [List.drop_eq_getElem_cons hlt, List.all_cons]
  refine Ev.step (fun k => by simp only [spec_GoodBuddy.l1]; rw [if_pos (by omega), if_pos (by omega), if_pos (by omega), rd_block, getb us j hlt, if_pos r2, r1, s1, w1, w2, inc j (by omega)]) ?_
  have go := ih (j + 1) (by omega)
  by_cases h1 : x.f0 < (us[j]).f0 + szB us[j]
  ·refine evp h1 (evp s2 ?_)
   by_cases h2 : (us[j]).f0 < x.f0 + szB x
   ·rw [show apB x us[j] = false from decide_eq_false (by omega), Bool.false_and, Bool.false_and]
    exact evp h2 (Ev.now _)
   ·rw [show apB x us[j] = true from decide_eq_true (by omega), Bool.true_and]
    exact evn h2 go
  ·rw [show apB x us[j] = true from decide_eq_true (by omega), Bool.true_and]
   exact evn h1 go
theorem spec_free (ord : Int) (fr us : List S45) (hlf : fr.length < 2 ^ 40) (hlu : us.length < 2 ^ 40) (hfr : ∀ x ∈ fr, blkB x = true) (hus : ∀ y ∈ us, blkB y = true) (d : Nat) : ∀ i : Nat, i + d = fr.length →
  Ev (fun k => spec_GoodBuddy.l0 k fr (fr.length : Int) (i : Int) ord fr us) ((fr.drop i).all fun x => !(decide (x.f1 < ord) && inB fr (bud x.f0 x.f1) x.f1) && us.all (apB x)) := by
 induction d with
 | zero =>
  intro i hi
  rw [List.drop_eq_nil_of_le (by omega), List.all_nil]
  exact Ev.step (fun k => by simp only [spec_GoodBuddy.l0]; rw [if_neg (by omega)]) (Ev.now _)
 | succ d ih =>
  intro i hi
  have hlt : i < fr.length := by omega
  have hx := hfr _ (List.getElem_mem hlt)
  have go := ih (i + 1) (by omega)
  rw [← inc i (by omega)] at go
  have ap := spec_apart fr (fr.length : Int) (i : Int) ord fr us hlu hus fr[i] hx _ go us.length 0 (by omega)
  rw [List.drop_zero, show ((0 : Nat) : Int) = 0 from rfl] at ap
  rw [List.drop_eq_getElem_cons hlt, List.all_cons]
  refine Ev.step (fun k => by simp only [spec_GoodBuddy.l0]; rw [if_pos (by omega), if_pos (by omega), if_pos (by omega), rd_block, getb fr i hlt]) ?_
  have hf : Ev (fun k => spec_GoodBuddy.j2 k fr (fr.length : Int) (i : Int) false ord fr us (fr[i]).f0 (fr[i]).f1) (us.all (apB fr[i]) && (fr.drop (i + 1)).all fun x => !(decide (x.f1 < ord) && inB fr (bud x.f0 x.f1) x.f1) && us.all (apB x)) := Ev.step (fun k => by simp only [spec_GoodBuddy.j2]; rw [if_neg (by decide)]) ap
  by_cases h1 : (fr[i]).f1 < ord
  ·rw [decide_eq_true h1, Bool.true_and]
   refine evp h1 (ev_to_some (spec_buddy_tells _ _ (blk_iff.mp hx).1.1 (blk_iff.mp hx).1.2) ?_)
   obtain ⟨r, e, hr⟩ := spec_at_l fr hlf (bud (fr[i]).f0 (fr[i]).f1) (fr[i]).f1 fr.length 0 (by omega)
   rw [List.drop_zero] at hr
   refine Ev.bind e ?_
   rw [hr]
   cases inB fr (bud (fr[i]).f0 (fr[i]).f1) (fr[i]).f1 with
   | true => rw [Bool.not_true, Bool.false_and, Bool.false_and]; exact Ev.step (fun k => by simp only [spec_GoodBuddy.j2]; rw [if_pos True.intro]) (Ev.now _)
   | false => exact hf
  ·rw [decide_eq_false h1]
   exact evn h1 hf
/-- the spec's answer -/
def goodB (ord : Int) (fr us : List S45) : Bool := decide (0 ≤ ord ∧ ord ≤ 8) && ((chainB (2 ^ ord.toNat) 0 fr && chainB (2 ^ ord.toNat) 0 us && decide (sumB fr + sumB us = 2 ^ ord.toNat)) && fr.all fun x => !(decide (x.f1 < ord) && inB fr (bud x.f0 x.f1) x.f1) && us.all (apB x))
theorem spec_goodB (ord : Int) (fr us : List S45) (hlf : fr.length < 2 ^ 40) (hlu : us.length < 2 ^ 40) : Ev (fun k => spec_GoodBuddy.f k ord fr us) (goodB ord fr us) := by
 unfold spec_GoodBuddy.f goodB
 rw [l1In_tells]
 refine ev_some ?_
 by_cases ho : 0 ≤ ord ∧ ord ≤ 8
 ·simp only [show decide (ord ≥ 0 ∧ ord ≤ 8) = true from decide_eq_true ho, show decide (0 ≤ ord ∧ ord ≤ 8) = true from decide_eq_true ho, Bool.true_and]
  obtain ⟨n, rfl⟩ := Int.eq_ofNat_of_zero_le ho.1
  refine evp trivial ?_
  rw [u64_small _ (by omega) (by omega), shl_sz n (by omega), pow_cast, Int.toNat_natCast]
  have hp := pow_le8 n (by omega)
  have hp1 : (1 : Int) ≤ 2 ^ n := by have := Nat.two_pow_pos n; rw [← pow_cast]; omega
  generalize (2 : Int) ^ n = B at hp hp1
  have e1 := spec_list fr hlf B (by omega) hp
  have e2 := spec_list us hlu B (by omega) hp
  have no : Ev (fun k => spec_GoodBuddy.j0 k true (n : Int) fr us) false := Ev.step (fun k => by simp only [spec_GoodBuddy.j0]; rw [if_pos True.intro]) (Ev.now _)
  refine evp (by omega) (Ev.bind e1 (Ev.bind e2 ?_))
  cases c1 : chainB B 0 fr with
  | false => rw [if_neg (by decide), Bool.false_and, Bool.false_and, Bool.false_and]; exact evn (by decide) no
  | true =>
   rw [if_pos rfl, Bool.true_and]
   refine evp rfl ?_
   cases c2 : chainB B 0 us with
   | false => rw [if_neg (by decide), Bool.false_and, Bool.false_and]; exact evn (by decide) no
   | true =>
    rw [if_pos rfl, Bool.true_and]
    refine evp rfl ?_
    have b1 := chainB_sum (show (0 : Int) ≤ B by omega) c1
    have b2 := chainB_sum (show (0 : Int) ≤ B by omega) c2
    have b3 := sumB_nonneg fr
    have b4 := sumB_nonneg us
    show Ev (fun k => spec_GoodBuddy.j0 k ((wrap64 (sumB fr + sumB us)) != B) (n : Int) fr us) _
    rw [show wrap64 (sumB fr + sumB us) = sumB fr + sumB us by unfold wrap64; omega]
    by_cases hs : sumB fr + sumB us = B
    ·rw [decide_eq_true hs, Bool.true_and, hs, bne_self_eq_false]
     refine Ev.step (fun k => by simp only [spec_GoodBuddy.j0]; rw [if_neg (by decide)]) ?_
     have := spec_free (n : Int) fr us hlf hlu (fun x hx => (chainB_low c1 x hx).2.2) (fun x hx => (chainB_low c2 x hx).2.2) fr.length 0 (by omega)
     rw [List.drop_zero] at this
     exact this
    ·rw [decide_eq_false hs, Bool.false_and, bne_iff_ne.mpr hs]
     exact no
 ·simp only [show decide (ord ≥ 0 ∧ ord ≤ 8) = false from decide_eq_false ho, show decide (0 ≤ ord ∧ ord ≤ 8) = false from decide_eq_false ho, Bool.false_and]
  exact evn (by decide) (Ev.now _)
/-- rising, as a test of neighbours -/
def riseL : List S45 → Bool
 | [] => true
 | [_] => true
 | x :: y :: l => decide (x.f0 < y.f0) && riseL (y :: l)
theorem riseL_iff : ∀ l : List S45, riseL l = true ↔ List.Pairwise riseB l
 | [] => ⟨fun _ => List.Pairwise.nil, fun _ => rfl⟩
 | [x] => ⟨fun _ => List.pairwise_singleton _ _, fun _ => rfl⟩
 | x :: y :: l => by
  have ih := riseL_iff (y :: l)
  rw [riseL, Bool.and_eq_true, decide_eq_true_eq, ih]
  constructor
  ·rintro ⟨h1, h2⟩
   refine List.Pairwise.cons (fun z hz => ?_) h2
   rcases List.mem_cons.mp hz with rfl | hz
   ·exact h1
   ·have := List.rel_of_pairwise_cons h2 hz
    unfold riseB at this ⊢; omega
  ·intro h
   exact ⟨List.rel_of_pairwise_cons h List.mem_cons_self, List.Pairwise.of_cons h⟩
theorem impl_rise_l (l : List S45) (hl : l.length < 2 ^ 40) (d : Nat) : ∀ i : Nat, i + d = l.length → 1 ≤ i → Ev (fun k => impl_isRising.l0 k l (i : Int)) (riseL (l.drop (i - 1))) := by
 induction d with
 | zero =>
  intro i hi h1
  have hlt : i - 1 < l.length := by omega
  rw [List.drop_eq_getElem_cons hlt, List.drop_eq_nil_of_le (by omega)]
  exact Ev.step (fun k => by simp only [impl_isRising.l0]; rw [if_neg (by omega)]; rfl) (Ev.now _)
 | succ d ih =>
  intro i hi h1
  have hlt : i < l.length := by omega
  have hlt2 : i - 1 < l.length := by omega
  have go := ih (i + 1) (by omega) (by omega)
  rw [Nat.add_sub_cancel, List.drop_eq_getElem_cons hlt] at go
  have e : l.drop (i - 1) = l[i - 1] :: l[i] :: l.drop (i + 1) := by
   rw [List.drop_eq_getElem_cons hlt2, show i - 1 + 1 = i by omega, List.drop_eq_getElem_cons hlt]
  have w1 : wrap64 ((i : Int) - 1) = ((i - 1 : Nat) : Int) := by unfold wrap64; omega
  rw [e, riseL]
  refine Ev.step (fun k => by simp only [impl_isRising.l0]; rw [if_pos (by omega), if_pos (by omega), w1, if_pos (by omega), if_pos (by omega), rd_block, rd_block, getb l i hlt, getb l (i - 1) hlt2, inc i (by omega)]) ?_
  by_cases h : (l[i - 1]).f0 < (l[i]).f0
  ·rw [decide_eq_true h, Bool.true_and]
   exact evn (by omega) go
  ·rw [decide_eq_false h, Bool.false_and]
   exact evp (by omega) (Ev.now _)
theorem impl_rise (l : List S45) (hl : l.length < 2 ^ 40) : Ev (fun k => impl_isRising.f k l) (riseL l) := by
 unfold impl_isRising.f
 cases l with
 | nil => exact Ev.step (fun k => by simp only [impl_isRising.l0]; rw [if_neg (by simp)]; rfl) (Ev.now _)
 | cons x l =>
  have := impl_rise_l (x :: l) hl l.length 1 (by simp only [List.length_cons]; omega) (by omega)
  exact this
theorem ev_buds (fr : List S45) (hl : fr.length < 2 ^ 40) : ∀ l : List S45, (∀ x ∈ l, blkB x = true) → Ev (fun k => if (l.all fun x => (budB k fr x).isSome) = true then some (l.any fun x => (budB k fr x).getD false) else none) (l.any fun x => inB fr (bud x.f0 x.f1) x.f1)
 | [], _ => Ev.congr (fun _ => rfl) (Ev.now _)
 | x :: l, h => by
  obtain ⟨K1, h1⟩ := ev_buds fr hl l (fun y hy => h y (List.mem_cons_of_mem _ hy))
  have hx := h x List.mem_cons_self
  obtain ⟨K2, h2⟩ := impl_has fr hl (bud x.f0 x.f1) x.f1
  refine ⟨K1 + K2, fun k hk => ?_⟩
  have g1 : (if (l.all fun x => (budB k fr x).isSome) = true then some (l.any fun x => (budB k fr x).getD false) else none) = some (l.any fun x => inB fr (bud x.f0 x.f1) x.f1) := h1 k (by omega)
  have g2 : budB k fr x = some (inB fr (bud x.f0 x.f1) x.f1) := by
   unfold budB
   rw [impl_buddy_tells _ _ (blk_iff.mp hx).1.1 (blk_iff.mp hx).1.2]
   exact h2 k (by omega)
  simp only [List.all_cons, List.any_cons, g2, Option.isSome_some, Bool.true_and, Option.getD_some]
  split at g1
  ·rename_i hc
   rw [if_pos hc, Option.some.inj g1]
  ·cases g1
theorem impl_buds (fr : List S45) (hl : fr.length < 2 ^ 40) (h : ∀ x ∈ fr, blkB x = true) : Ev (fun k => impl_Block_53.f k fr fr) (fr.any fun x => inB fr (bud x.f0 x.f1) x.f1) := by
 unfold impl_Block_53.f
 exact ev_buds fr hl fr h
theorem impl_tile (s : List S45) (hl : s.length < 2 ^ 40) (n : Nat) (hn : n ≤ 8) (fr us : List S45) (v : Bool) (hv : tile 0 s = some (2 ^ n) → Ev (fun k => impl_Block_53.f k fr fr) v) (d : Nat) : ∀ (i : Nat) (a : Int), i + d = s.length → 0 ≤ a → a ≤ 2 ^ 31 → tile 0 s = tile a (s.drop i) →
  Ev (fun k => impl_GoodBuddy.l0 k a s (s.length : Int) (i : Int) (n : Int) fr us) (decide (tile a (s.drop i) = some (2 ^ n)) && !v) := by
 induction d with
 | zero =>
  intro i a hi h0 h1 ht
  rw [List.drop_eq_nil_of_le (by omega), tile] at ht ⊢
  refine Ev.step (fun k => by simp only [impl_GoodBuddy.l0]; rw [if_neg (by omega), if_pos (by omega), shl_sz n hn, pow_cast]) ?_
  by_cases h : a = 2 ^ n
  ·rw [decide_eq_true (by rw [h]), Bool.true_and]
   exact evp h (Ev.bind (hv (by rw [ht, h])) (Ev.now _))
  ·rw [decide_eq_false (fun e => h (Option.some.inj e)), Bool.false_and]
   exact evn h (Ev.now _)
 | succ d ih =>
  intro i a hi h0 h1 ht
  have hlt : i < s.length := by omega
  rw [List.drop_eq_getElem_cons hlt, tile] at ht ⊢
  refine Ev.step (fun k => by simp only [impl_GoodBuddy.l0]; rw [if_pos (by omega), if_pos (by omega), if_pos (by omega), rd_block, getb s i hlt, impl_block_tells]) (ev_some ?_)
  show Ev (fun k => if blkB s[i] = true then _ else _) _
  cases hb : blkB s[i] with
  | false =>
   rw [if_neg (fun h => by cases h.1), decide_eq_false (by simp), Bool.false_and]
   exact evn (by decide) (Ev.now _)
  | true =>
   refine evp rfl ?_
   by_cases hc : (s[i]).f0 = a
   ·rw [hb, if_pos ⟨rfl, hc⟩] at ht
    rw [if_pos ⟨rfl, hc⟩]
    have q1 := szB_pos s[i]
    have q2 := szB_le hb
    have q3 := (blk_iff.mp hb).2.1
    have hsz : impl_Block_size.f (s[i]).f0 (s[i]).f1 = some (szB s[i]) := by
     unfold impl_Block_size.f
     rw [if_pos (blk_iff.mp hb).1.1, szB_shl' hb]
    refine evp hc (ev_to_some hsz ?_)
    rw [show wrap64 (a + szB s[i]) = a + szB s[i] by unfold wrap64; omega, inc i (by omega)]
    exact ih (i + 1) (a + szB s[i]) (by omega) (by omega) (by omega) ht
   ·rw [if_neg (fun h => hc h.2), decide_eq_false (by simp), Bool.false_and]
    exact evn hc (Ev.now _)
theorem bud_top (n : Nat) (hn : n ≤ 8) : bud 0 (n : Int) = 2 ^ n := by
 unfold bud
 rw [Int.toNat_natCast, ← pow_cast]
 have : ∀ o : Nat, o ≤ 8 → Go.bits .xor .i64 0 ((2 ^ o : Nat) : Int) = ((2 ^ o : Nat) : Int) := by
  intro o ho
  match o, ho with
  | 0, _ => rfl
  | 1, _ => rfl
  | 2, _ => rfl
  | 3, _ => rfl
  | 4, _ => rfl
  | 5, _ => rfl
  | 6, _ => rfl
  | 7, _ => rfl
  | 8, _ => rfl
 exact this n hn
theorem pow_mono {a b : Nat} (h : a ≤ b) : (2 : Int) ^ a ≤ 2 ^ b := by
 rw [← pow_cast, ← pow_cast]
 have := Nat.pow_le_pow_right (show 0 < 2 by omega) h
 omega
/-- a block that is no smaller than the whole has no buddy inside -/
theorem no_bud {n : Nat} (hn : n ≤ 8) {fr : List S45} (hc : chainB (2 ^ n) 0 fr = true) {x : S45} (hx : x ∈ fr) (ho : ¬ x.f1 < (n : Int)) : inB fr (bud x.f0 x.f1) x.f1 = false := by
 obtain ⟨l1, l2, l3⟩ := chainB_low hc x hx
 obtain ⟨⟨b1, b2⟩, _, _⟩ := blk_iff.mp l3
 obtain ⟨m, hm⟩ := Int.eq_ofNat_of_zero_le b1
 have hsz : szB x = 2 ^ m := by unfold szB; rw [hm, Int.toNat_natCast]
 have h1 := pow_mono (show n ≤ m by omega)
 have h2 : x.f0 = 0 := by omega
 have h3 : m = n := by
  by_cases h : m = n
  ·exact h
  ·have h4 := pow_mono (show n + 1 ≤ m by omega)
   rw [Int.pow_succ] at h4
   have h5 : (1 : Int) ≤ 2 ^ n := by have := Nat.two_pow_pos n; rw [← pow_cast]; omega
   omega
 unfold inB
 rw [List.any_eq_false]
 intro y hy hyc
 rw [Bool.and_eq_true, beq_iff_eq, beq_iff_eq, h2, hm, h3, bud_top n hn] at hyc
 obtain ⟨k1, k2, k3⟩ := chainB_low hc y hy
 have := szB_pos y
 omega
theorem impl_goodB (ord : Int) (fr us : List S45) (hlf : fr.length < 2 ^ 38) (hlu : us.length < 2 ^ 38) : Ev (fun k => impl_GoodBuddy.f k ord fr us) (goodB ord fr us) := by
 unfold impl_GoodBuddy.f goodB
 rw [within_tells]
 refine ev_some ?_
 by_cases ho : 0 ≤ ord ∧ ord ≤ 8
 ·simp only [show decide (ord ≥ 0 ∧ ord ≤ 8) = true from decide_eq_true ho, show decide (0 ≤ ord ∧ ord ≤ 8) = true from decide_eq_true ho, Bool.true_and]
  obtain ⟨n, rfl⟩ := Int.eq_ofNat_of_zero_le ho.1
  have hn : n ≤ 8 := by omega
  refine evp trivial ?_
  rw [Int.toNat_natCast]
  have no : Ev (fun k => impl_GoodBuddy.j0 k true (n : Int) fr us) false := Ev.step (fun k => by simp only [impl_GoodBuddy.j0]; rw [if_pos True.intro]) (Ev.now _)
  have hB : (0 : Int) ≤ 2 ^ n := by have := Nat.two_pow_pos n; rw [← pow_cast]; omega
  obtain ⟨t1, t2, t3⟩ := sortB_told (fr ++ us)
  have ti := tile_iff (B := 2 ^ n) hB t2 t3
  have val : (riseL fr && (riseL us && (decide (tile 0 (sortB (fr ++ us)) = some (2 ^ n)) && !(fr.any fun x => inB fr (bud x.f0 x.f1) x.f1)))) = ((chainB (2 ^ n) 0 fr && chainB (2 ^ n) 0 us && decide (sumB fr + sumB us = 2 ^ n)) && fr.all fun x => !(decide (x.f1 < (n : Int)) && inB fr (bud x.f0 x.f1) x.f1) && us.all (apB x)) := by
   rw [Bool.eq_iff_iff]
   simp only [Bool.and_eq_true, decide_eq_true_eq, riseL_iff, Bool.not_eq_true', List.any_eq_false, List.all_eq_true, Bool.and_eq_false_iff, decide_eq_false_iff_not]
   constructor
   ·rintro ⟨r1, r2, r3, r4⟩
    obtain ⟨d1, d2, d3, d4⟩ := ti.mp ⟨r1, r2, r3⟩
    exact ⟨⟨⟨d1, d2⟩, d3⟩, fun x hx => ⟨Or.inr (by simpa using r4 x hx), fun y hy => decide_eq_true (show x.f0 + szB x ≤ y.f0 ∨ y.f0 + szB y ≤ x.f0 from d4 x hx y hy)⟩⟩
   ·rintro ⟨⟨⟨d1, d2⟩, d3⟩, d4⟩
    obtain ⟨r1, r2, r3⟩ := ti.mpr ⟨d1, d2, d3, fun x hx y hy => of_decide_eq_true (p := x.f0 + szB x ≤ y.f0 ∨ y.f0 + szB y ≤ x.f0) ((d4 x hx).2 y hy)⟩
    refine ⟨r1, r2, r3, fun x hx => ?_⟩
    rcases (d4 x hx).1 with h | h
    ·simpa using no_bud hn d1 hx h
    ·simpa using h
  rw [← val]
  refine Ev.bind (impl_rise fr (by omega)) ?_
  cases c1 : riseL fr with
  | false => rw [Bool.false_and]; exact evn (by decide) no
  | true =>
   rw [Bool.true_and]
   refine evp rfl (Ev.bind (impl_rise us (by omega)) ?_)
   cases c2 : riseL us with
   | false => rw [Bool.false_and]; exact no
   | true =>
    rw [Bool.true_and]
    refine Ev.step (fun k => by simp only [impl_GoodBuddy.j0]; rw [if_neg (by decide)]) ?_
    have hcl : impl_Block_35.f fr = some fr := by unfold impl_Block_35.f; rw [if_pos (by omega)]
    refine ev_to_some hcl (evp (by omega) (ev_some ?_))
    have hv : tile 0 (sortB (fr ++ us)) = some (2 ^ n) → Ev (fun k => impl_Block_53.f k fr fr) (fr.any fun x => inB fr (bud x.f0 x.f1) x.f1) := fun ht => impl_buds fr (by omega) (fun x hx => (chainB_low (tile_chain ht).1 x (t2.mem_iff.mpr (List.mem_append_left _ hx))).2.2)
    have := impl_tile (sortB (fr ++ us)) (by rw [t1, List.length_append]; omega) n hn fr us _ hv (sortB (fr ++ us)).length 0 0 (by omega) (by omega) (by omega) (by rw [List.drop_zero])
    rw [List.drop_zero] at this
    exact this
 ·simp only [show decide (ord ≥ 0 ∧ ord ≤ 8) = false from decide_eq_false ho, show decide (0 ≤ ord ∧ ord ≤ 8) = false from decide_eq_false ho, Bool.false_and]
  exact evn (by decide) (Ev.step (fun k => by simp only [impl_GoodBuddy.j0]; rw [if_pos True.intro]) (Ev.now _))

-- the place of a block among blocks that rise, as the search finds it and as a count of the blocks ahead
/-- how many blocks at the head lie ahead of t -/
def plB (t : Int) : List S45 → Nat
 | [] => 0
 | x :: l => if x.f0 < t then plB t l + 1 else 0
def leB (x y : S45) : Prop := x.f0 ≤ y.f0
theorem plB_le (t : Int) : ∀ l : List S45, plB t l ≤ l.length
 | [] => Nat.le_refl _
 | x :: l => by
  rw [plB]
  split
  ·have := plB_le t l; simp; omega
  ·simp
theorem plB_lt (t : Int) : ∀ (l : List S45) (j : Nat), j < plB t l → (l.getD j z45).f0 < t
 | [], j, h => by simp [plB] at h
 | x :: l, j, h => by
  rw [plB] at h
  split at h
  ·rename_i hx
   cases j with
   | zero => exact hx
   | succ j => exact plB_lt t l j (by omega)
  ·omega
theorem plB_ge (t : Int) : ∀ (l : List S45), List.Pairwise leB l → ∀ j, plB t l ≤ j → j < l.length → ¬ (l.getD j z45).f0 < t
 | [], _, j, _, h => by simp at h
 | x :: l, hp, j, h, hl => by
  obtain ⟨h1, h2⟩ := List.pairwise_cons.mp hp
  rw [plB] at h
  split at h
  ·cases j with
   | zero => omega
   | succ j => exact plB_ge t l h2 j (by omega) (by simpa using hl)
  ·rename_i hx
   cases j with
   | zero => exact hx
   | succ j =>
    have hj : j < l.length := by simpa using hl
    have e : ((x :: l).getD (j + 1) z45) = l[j] := by simp [List.getD_eq_getElem?_getD, hj]
    rw [e]
    have := h1 l[j] (List.getElem_mem hj)
    unfold leB at this
    omega
theorem bsB_place_l (l : List S45) (t : Int) (hp : List.Pairwise leB l) : ∀ (n lo hi : Nat), lo ≤ plB t l → plB t l ≤ hi → hi ≤ l.length → hi - lo ≤ n → bsB l t n lo hi = plB t l
 | 0, lo, hi, h1, h2, _, h4 => by rw [bsB]; omega
 | n + 1, lo, hi, h1, h2, h3, h4 => by
  rw [bsB]
  split
  ·rename_i hlt
   have hm : (lo + hi) / 2 < l.length := by omega
   have e : rd_T45 l (((lo + hi) / 2 : Nat) : Int) = l.getD ((lo + hi) / 2) z45 := by unfold rd_T45; rw [Int.toNat_natCast]
   rw [e]
   split
   ·rename_i hx
    refine bsB_place_l l t hp n _ _ ?_ h2 h3 (by omega)
    rcases Nat.lt_or_ge ((lo + hi) / 2) (plB t l) with h | h
    ·exact h
    ·exact absurd hx (plB_ge t l hp _ h hm)
   ·rename_i hx
    refine bsB_place_l l t hp n _ _ h1 ?_ (by omega) (by omega)
    rcases Nat.lt_or_ge ((lo + hi) / 2) (plB t l) with h | h
    ·exact absurd (plB_lt t l _ h) hx
    ·exact h
  ·omega
theorem bsB_place (l : List S45) (t : Int) (hp : List.Pairwise leB l) : bsB l t l.length 0 l.length = plB t l := bsB_place_l l t hp l.length 0 l.length (Nat.zero_le _) (plB_le t l) (Nat.le_refl _) (by omega)
/-- blocks with one more in its place -/
def putB (l : List S45) (x : S45) : List S45 := insAt l (plB x.f0 l) x
theorem putB_nil (x : S45) : putB [] x = [x] := rfl
theorem putB_cons (y : S45) (l : List S45) (x : S45) : putB (y :: l) x = if y.f0 < x.f0 then y :: putB l x else x :: y :: l := by
 unfold putB insAt
 rw [plB]
 split <;> simp
theorem putB_mem {l : List S45} {x y : S45} : y ∈ putB l x ↔ y = x ∨ y ∈ l := by
 induction l with
 | nil => simp [putB_nil]
 | cons z l ih =>
  rw [putB_cons]
  split
  ·simp [ih]; exact or_left_comm
  ·simp
theorem putB_perm (l : List S45) (x : S45) : List.Perm (putB l x) (x :: l) := by
 induction l with
 | nil => exact List.Perm.refl _
 | cons z l ih =>
  rw [putB_cons]
  split
  ·exact (ih.cons z).trans (List.Perm.swap x z l)
  ·exact List.Perm.refl _
theorem putB_length (l : List S45) (x : S45) : (putB l x).length = l.length + 1 := (putB_perm l x).length_eq
theorem putB_le {l : List S45} {x : S45} (h : List.Pairwise leB l) : List.Pairwise leB (putB l x) := by
 induction l with
 | nil => simp [putB_nil]
 | cons z l ih =>
  obtain ⟨h1, h2⟩ := List.pairwise_cons.mp h
  rw [putB_cons]
  split
  ·rename_i hx
   refine List.pairwise_cons.mpr ⟨fun y hy => ?_, ih h2⟩
   rcases putB_mem.mp hy with rfl | hy
   ·unfold leB; omega
   ·exact h1 y hy
  ·rename_i hx
   refine List.pairwise_cons.mpr ⟨fun y hy => ?_, h⟩
   rcases List.mem_cons.mp hy with rfl | hy
   ·unfold leB; omega
   ·have := h1 y hy
    unfold leB at *
    omega

/-- blocks without one -/
def lackB (l : List S45) (x : S45) : List S45 := l.filter fun y => !(y.f0 == x.f0 && y.f1 == x.f1)
theorem lackB_far {l : List S45} {x : S45} (h : ∀ y ∈ l, y.f0 ≠ x.f0) : lackB l x = l := by
 unfold lackB
 rw [List.filter_eq_self]
 intro y hy
 have := h y hy
 simp [this]
theorem lackB_at : ∀ (l : List S45) (k : Nat) (hk : k < l.length), List.Pairwise riseB l → lackB l l[k] = l.take k ++ l.drop (k + 1)
 | [], k, hk, _ => absurd hk (Nat.not_lt_zero k)
 | y :: l, 0, _, hp => by
  obtain ⟨h1, h2⟩ := List.pairwise_cons.mp hp
  have hf := lackB_far (l := l) (x := y) (fun z hz => by have := h1 z hz; unfold riseB at this; omega)
  show lackB (y :: l) y = l
  unfold lackB at hf ⊢
  rw [List.filter_cons_of_neg (by simp), hf]
 | y :: l, k + 1, hk, hp => by
  obtain ⟨h1, h2⟩ := List.pairwise_cons.mp hp
  have hk' : k < l.length := by simpa using hk
  have ih := lackB_at l k hk' h2
  have hy : y.f0 ≠ (l[k]).f0 := by have := h1 l[k] (List.getElem_mem hk'); unfold riseB at this; omega
  show lackB (y :: l) l[k] = y :: (l.take k ++ l.drop (k + 1))
  rw [← ih]
  unfold lackB
  rw [List.filter_cons_of_pos (by simp [hy])]
theorem lack_tells (l : List S45) (hl : l.length < 2 ^ 40) (x : S45) : impl_lacking.f l x.f0 x.f1 = some (lackB l x) := by
 unfold impl_lacking.f lackB
 rw [if_pos hl]
theorem without_tells (l : List S45) (hl : l.length < 2 ^ 40) (k : Nat) (hk : k < l.length) : spec_l6Without.f l (k : Int) = some (l.take k ++ l.drop (k + 1)) := by
 unfold spec_l6Without.f
 rw [inc k (by omega)]
 simp only [Option.bind_some, List.nil_append, List.length_nil, Int.toNat_natCast]
 rw [if_pos (by omega), if_pos (by omega), if_pos (by rw [List.length_take]; omega), if_pos (by omega), if_pos (by omega), if_pos (by rw [List.length_take, List.length_drop]; omega)]
theorem lackB_length (l : List S45) (x : S45) : (lackB l x).length ≤ l.length := List.length_filter_le _ _
theorem lackB_sub (l : List S45) (x : S45) : List.Sublist (lackB l x) l := List.filter_sublist
theorem rise_le {l : List S45} (h : List.Pairwise riseB l) : List.Pairwise leB l := h.imp fun {a b} q => by unfold riseB at q; unfold leB; omega
theorem ahead_rise {l : List S45} (h : List.Pairwise aheadB l) : List.Pairwise riseB l := h.imp fun {a b} q => by have := szB_pos a; unfold aheadB at q; unfold riseB; omega
theorem with_tells (l : List S45) (hl : l.length < 2 ^ 40) (hp : List.Pairwise leB l) (a o : Int) : impl_with.f l a o = some (putB l ⟨a, o⟩) := by
 unfold impl_with.f putB
 rw [if_pos hl, bsB_place l a hp]
theorem plB_stop (t : Int) : ∀ (l : List S45), plB t l < l.length → ¬ (l.getD (plB t l) z45).f0 < t
 | [], h => by simp at h
 | x :: l, h => by
  by_cases hx : x.f0 < t
  ·have e : plB t (x :: l) = plB t l + 1 := by rw [plB, if_pos hx]
   rw [e] at h ⊢
   exact plB_stop t l (by simpa using h)
  ·have e : plB t (x :: l) = 0 := by rw [plB, if_neg hx]
   rw [e]
   exact hx
theorem put_l (l : List S45) (hl : l.length < 2 ^ 40) (a o : Int) (d : Nat) : ∀ i : Nat, i + d = plB a l → Ev (fun k => spec_l6Put.l0 k l (i : Int) a o) (putB l ⟨a, o⟩) := by
 have hle := plB_le a l
 induction d with
 | zero =>
  intro i hi
  obtain rfl : i = plB a l := hi
  have hput : putB l ⟨a, o⟩ = l.take (plB a l) ++ [⟨a, o⟩] ++ l.drop (plB a l) := rfl
  rw [hput]
  by_cases hlt : plB a l < l.length
  ·have hst := plB_stop a l hlt
   refine Ev.step (fun k => ?_) (Ev.now _)
   rw [spec_l6Put.l0, if_pos (by omega), if_pos (by omega), rd_block, if_neg hst]
   simp only [Option.bind_some, List.nil_append, List.length_nil, Int.toNat_natCast]
   rw [if_pos (by omega), if_pos (by rw [List.length_take]; omega), if_pos (by rw [List.length_take]; omega), if_pos (by rw [List.length_append, List.length_take, List.length_drop]; show _ + 1 + _ < _; omega)]
  ·refine Ev.step (fun k => ?_) (Ev.now _)
   rw [spec_l6Put.l0, if_neg (by omega)]
   simp only [Option.bind_some, List.nil_append, List.length_nil, Int.toNat_natCast]
   rw [if_pos (by omega), if_pos (by omega), if_pos (by rw [List.length_take]; omega), if_pos (by rw [List.length_take]; omega), if_pos (by rw [List.length_append, List.length_take, List.length_drop]; show _ + 1 + _ < _; omega)]
 | succ d ih =>
  intro i hi
  have h := plB_lt a l i (by omega)
  refine Ev.step (fun k => ?_) (ih (i + 1) (by omega))
  rw [spec_l6Put.l0, if_pos (by omega), if_pos (by omega), rd_block, if_pos h, inc i (by omega)]
theorem put_tells (l : List S45) (hl : l.length < 2 ^ 40) (a o : Int) : Ev (fun k => spec_l6Put.f k l a o) (putB l ⟨a, o⟩) := by
 unfold spec_l6Put.f
 exact put_l l hl a o (plB a l) 0 (by omega)

theorem good_chains {ord : Int} {fr us : List S45} (h : goodB ord fr us = true) : (0 ≤ ord ∧ ord ≤ 8) ∧ chainB (2 ^ ord.toNat) 0 fr = true ∧ chainB (2 ^ ord.toNat) 0 us = true := by
 unfold goodB at h
 simp only [Bool.and_eq_true, decide_eq_true_eq] at h
 exact ⟨h.1, h.2.1.1.1, h.2.1.1.2⟩

/-- the place of the least block that is long enough, as both loops find it -/
def bestB (n : Int) (l : List S45) : Int → List S45 → Int → Int
 | b, [], _ => b
 | b, y :: t, i => bestB n l (if y.f1 ≥ n then (if b < 0 then i else if y.f1 < (l.getD b.toNat z45).f1 then i else b) else b) t (i + 1)
theorem bestB_in (n : Int) (l : List S45) : ∀ (d i : Nat) (b : Int), i + d = l.length → (b = -1 ∨ 0 ≤ b ∧ b < (i : Int) ∧ n ≤ (l.getD b.toNat z45).f1) →
  bestB n l b (l.drop i) (i : Int) = -1 ∨ 0 ≤ bestB n l b (l.drop i) (i : Int) ∧ bestB n l b (l.drop i) (i : Int) < (l.length : Int) ∧ n ≤ (l.getD (bestB n l b (l.drop i) (i : Int)).toNat z45).f1
 | 0, i, b, hi, hb => by
  rw [List.drop_eq_nil_of_le (by omega), bestB]
  rcases hb with h | h
  ·exact .inl h
  ·exact .inr ⟨h.1, by omega, h.2.2⟩
 | d + 1, i, b, hi, hb => by
  have hlt : i < l.length := by omega
  rw [List.drop_eq_getElem_cons hlt, bestB]
  rw [show (i : Int) + 1 = ((i + 1 : Nat) : Int) by omega]
  refine bestB_in n l d (i + 1) _ (by omega) ?_
  have hi' : l.getD (i : Int).toNat z45 = l[i] := by rw [Int.toNat_natCast, getb l i hlt]
  split
  ·rename_i hge
   split
   ·exact .inr ⟨by omega, by omega, by rw [hi']; exact hge⟩
   ·split
    ·exact .inr ⟨by omega, by omega, by rw [hi']; exact hge⟩
    ·rcases hb with h | h
     ·exact .inl h
     ·exact .inr ⟨h.1, by omega, h.2.2⟩
  ·rcases hb with h | h
   ·exact .inl h
   ·exact .inr ⟨h.1, by omega, h.2.2⟩
theorem spec_best_l (n a : Int) (l us : List S45) (hl : l.length < 2 ^ 40) (r : Int × List S45 × List S45 × Int × Bool) : ∀ (d i : Nat) (b : Int), i + d = l.length → (b = -1 ∨ 0 ≤ b ∧ b < (i : Int)) →
  Ev (fun k => spec_TakeBlock.l0 k n (bestB n l b (l.drop i) (i : Int)) l (l.length : Int) (l.length : Int) a l us) r → Ev (fun k => spec_TakeBlock.l0 k n b l (l.length : Int) (i : Int) a l us) r
 | 0, i, b, hi, hb, h => by
  rw [List.drop_eq_nil_of_le (by omega), bestB] at h
  rw [show i = l.length by omega]
  exact h
 | d + 1, i, b, hi, hb, h => by
  have hlt : i < l.length := by omega
  rw [List.drop_eq_getElem_cons hlt, bestB, show (i : Int) + 1 = ((i + 1 : Nat) : Int) by omega] at h
  have ih := fun b' hb' h' => spec_best_l n a l us hl r d (i + 1) b' (by omega) hb' h'
  by_cases hge : (l[i]).f1 ≥ n
  ·rw [if_pos hge] at h
   by_cases hb0 : b < 0
   ·rw [if_pos hb0] at h
    refine Ev.step (fun k => ?_) (ih (i : Int) (.inr (by omega)) h)
    rw [spec_TakeBlock.l0, if_pos (by omega), if_pos (by omega), if_pos (by omega), rd_block, getb l i hlt, if_pos hge, if_pos hb0, inc i (by omega)]
   ·rw [if_neg hb0] at h
    by_cases hlo : (l[i]).f1 < (l.getD b.toNat z45).f1
    ·rw [if_pos hlo] at h
     refine Ev.step (fun k => ?_) (ih (i : Int) (.inr (by omega)) h)
     rw [spec_TakeBlock.l0, if_pos (by omega), if_pos (by omega), if_pos (by omega), rd_block, getb l i hlt, if_pos hge, if_neg hb0, if_pos (by omega), if_pos (by omega), show rd_T45 l b = l.getD b.toNat z45 from rfl, if_pos hlo, inc i (by omega)]
    ·rw [if_neg hlo] at h
     refine Ev.step (fun k => ?_) (ih b (by omega) h)
     rw [spec_TakeBlock.l0, if_pos (by omega), if_pos (by omega), if_pos (by omega), rd_block, getb l i hlt, if_pos hge, if_neg hb0, if_pos (by omega), if_pos (by omega), show rd_T45 l b = l.getD b.toNat z45 from rfl, if_neg hlo, inc i (by omega)]
  ·rw [if_neg hge] at h
   refine Ev.step (fun k => ?_) (ih b (by omega) h)
   rw [spec_TakeBlock.l0, if_pos (by omega), if_pos (by omega), if_pos (by omega), rd_block, getb l i hlt, if_neg hge, inc i (by omega)]
theorem impl_best_l (n a : Int) (l us : List S45) (hl : l.length < 2 ^ 40) (r : Int × List S45 × List S45 × Int × Bool) : ∀ (d i : Nat) (b : Int), i + d = l.length → (b = -1 ∨ 0 ≤ b ∧ b < (i : Int)) →
  Ev (fun k => impl_TakeBlock.l0 k n (bestB n l b (l.drop i) (i : Int)) l (l.length : Int) (l.length : Int) a l us) r → Ev (fun k => impl_TakeBlock.l0 k n b l (l.length : Int) (i : Int) a l us) r
 | 0, i, b, hi, hb, h => by
  rw [List.drop_eq_nil_of_le (by omega), bestB] at h
  rw [show i = l.length by omega]
  exact h
 | d + 1, i, b, hi, hb, h => by
  have hlt : i < l.length := by omega
  rw [List.drop_eq_getElem_cons hlt, bestB, show (i : Int) + 1 = ((i + 1 : Nat) : Int) by omega] at h
  have ih := fun b' hb' h' => impl_best_l n a l us hl r d (i + 1) b' (by omega) hb' h'
  by_cases hge : (l[i]).f1 ≥ n
  ·rw [if_pos hge] at h
   by_cases hb0 : b < 0
   ·rw [if_pos hb0] at h
    refine Ev.step (fun k => ?_) (ih (i : Int) (.inr (by omega)) h)
    rw [impl_TakeBlock.l0, if_pos (by omega), if_pos (by omega), if_pos (by omega), rd_block, getb l i hlt, if_pos hge, if_pos hb0, inc i (by omega)]
   ·rw [if_neg hb0] at h
    by_cases hlo : (l[i]).f1 < (l.getD b.toNat z45).f1
    ·rw [if_pos hlo] at h
     refine Ev.step (fun k => ?_) (ih (i : Int) (.inr (by omega)) h)
     rw [impl_TakeBlock.l0, if_pos (by omega), if_pos (by omega), if_pos (by omega), rd_block, getb l i hlt, if_pos hge, if_neg hb0, if_pos (by omega), if_pos (by omega), show rd_T45 l b = l.getD b.toNat z45 from rfl, if_pos hlo, inc i (by omega)]
    ·rw [if_neg hlo] at h
     refine Ev.step (fun k => ?_) (ih b (by omega) h)
     rw [impl_TakeBlock.l0, if_pos (by omega), if_pos (by omega), if_pos (by omega), rd_block, getb l i hlt, if_pos hge, if_neg hb0, if_pos (by omega), if_pos (by omega), show rd_T45 l b = l.getD b.toNat z45 from rfl, if_neg hlo, inc i (by omega)]
  ·rw [if_neg hge] at h
   refine Ev.step (fun k => ?_) (ih b (by omega) h)
   rw [impl_TakeBlock.l0, if_pos (by omega), if_pos (by omega), if_pos (by omega), rd_block, getb l i hlt, if_neg hge, inc i (by omega)]
/-- the blocks that come off while a block is halved -/
def splitB (a n : Int) : Nat → List S45 → List S45
 | 0, l => l
 | o + 1, l => if ((o + 1 : Nat) : Int) > n then splitB a n o (putB l ⟨bud a (o : Int), (o : Int)⟩) else l
theorem splitB_le (a n : Int) : ∀ (o : Nat) (l : List S45), List.Pairwise leB l → List.Pairwise leB (splitB a n o l)
 | 0, l, h => h
 | o + 1, l, h => by
  rw [splitB]
  split
  ·exact splitB_le a n o _ (putB_le h)
  ·exact h
theorem splitB_length (a n : Int) : ∀ (o : Nat) (l : List S45), (splitB a n o l).length ≤ l.length + o
 | 0, l => Nat.le_refl _
 | o + 1, l => by
  rw [splitB]
  split
  ·have := splitB_length a n o (putB l ⟨bud a (o : Int), (o : Int)⟩)
   rw [putB_length] at this
   omega
  ·omega
theorem spec_split_l (n a A : Int) (fr us : List S45) (hn : 0 ≤ n) (hu : us.length < 2 ^ 40) : ∀ (o : Nat) (l : List S45), o ≤ 8 → n ≤ (o : Int) → l.length < 2 ^ 40 - 10 + 8 - o →
  Ev (fun k => spec_TakeBlock.l1 k n l A fr us a (o : Int)) (A, splitB a n o l, putB us ⟨a, n⟩, a, true)
 | 0, l, _, hno, hl => by
  obtain rfl : n = ((0 : Nat) : Int) := by omega
  refine Ev.step (fun k => by rw [spec_TakeBlock.l1, if_neg (by omega)]) ?_
  exact Ev.bind (put_tells us hu a _) (Ev.now _)
 | o + 1, l, ho, hno, hl => by
  by_cases hgt : ((o + 1 : Nat) : Int) > n
  ·rw [splitB, if_pos hgt]
   have hw : wrap64 (((o + 1 : Nat) : Int) - 1) = (o : Int) := by unfold wrap64; omega
   refine Ev.step (fun k => by rw [spec_TakeBlock.l1, if_pos hgt, hw, spec_buddy_tells a (o : Int) (by omega) (by omega), Option.bind_some]) ?_
   refine Ev.bind (put_tells l (by omega) _ _) ?_
   exact spec_split_l n a A fr us hn hu o _ (by omega) (by omega) (by rw [putB_length]; omega)
  ·rw [splitB, if_neg hgt]
   obtain rfl : n = ((o + 1 : Nat) : Int) := by omega
   refine Ev.step (fun k => by rw [spec_TakeBlock.l1, if_neg hgt]) ?_
   exact Ev.bind (put_tells us hu a _) (Ev.now _)
theorem impl_split_l (n a A B : Int) (fr us : List S45) (hn : 0 ≤ n) (hu : us.length < 2 ^ 40) (hul : List.Pairwise leB us) : ∀ (o : Nat) (l : List S45), o ≤ 8 → n ≤ (o : Int) → l.length < 2 ^ 40 - 10 + 8 - o → List.Pairwise leB l →
  Ev (fun k => impl_TakeBlock.l1 k n B fr us a (o : Int) A l) (A, splitB a n o l, putB us ⟨a, n⟩, a, true)
 | 0, l, _, hno, hl, hp => by
  obtain rfl : n = ((0 : Nat) : Int) := by omega
  refine Ev.step (fun k => by rw [impl_TakeBlock.l1, if_neg (by omega)]) ?_
  exact ev_to_some (with_tells us hu hul a _) (Ev.now _)
 | o + 1, l, ho, hno, hl, hp => by
  by_cases hgt : ((o + 1 : Nat) : Int) > n
  ·rw [splitB, if_pos hgt]
   have hw : wrap64 (((o + 1 : Nat) : Int) - 1) = (o : Int) := by unfold wrap64; omega
   refine Ev.step (fun k => by rw [impl_TakeBlock.l1, if_pos hgt, hw, impl_buddy_tells a (o : Int) (by omega) (by omega), Option.bind_some]) ?_
   refine ev_to_some (with_tells l (by omega) hp _ _) ?_
   exact impl_split_l n a A B fr us hn hu hul o _ (by omega) (by omega) (by rw [putB_length]; omega) (putB_le hp)
  ·rw [splitB, if_neg hgt]
   obtain rfl : n = ((o + 1 : Nat) : Int) := by omega
   refine Ev.step (fun k => by rw [impl_TakeBlock.l1, if_neg hgt]) ?_
   exact ev_to_some (with_tells us hu hul a _) (Ev.now _)
/-- what both give -/
def takeB (a n : Int) (fr us : List S45) : Int × List S45 × List S45 × Int × Bool :=
 if goodB a fr us = true ∧ n ≥ 0 ∧ n ≤ a then
  (if bestB n fr (-1) fr 0 < 0 then (0, [], [], 0, false)
  else (a, splitB (fr.getD (bestB n fr (-1) fr 0).toNat z45).f0 n (fr.getD (bestB n fr (-1) fr 0).toNat z45).f1.toNat (lackB fr (fr.getD (bestB n fr (-1) fr 0).toNat z45)), putB us ⟨(fr.getD (bestB n fr (-1) fr 0).toNat z45).f0, n⟩, (fr.getD (bestB n fr (-1) fr 0).toNat z45).f0, true))
 else (0, [], [], 0, false)
theorem takeB_tells (a n : Int) (fr us : List S45) (hf : fr.length < 2 ^ 38) (hu : us.length < 2 ^ 38) : Ev (fun k => spec_TakeBlock.f k a fr us n) (takeB a n fr us) ∧ Ev (fun k => impl_TakeBlock.f k a fr us n) (takeB a n fr us) := by
 unfold spec_TakeBlock.f impl_TakeBlock.f takeB
 have h1 := spec_goodB a fr us (by omega) (by omega)
 have h2 := impl_goodB a fr us hf hu
 cases hg : goodB a fr us with
 | false =>
  rw [hg] at h1 h2
  rw [if_neg (fun h => by cases h.1)]
  exact ⟨Ev.bind h1 (evn (by decide) (Ev.step (fun k => by rw [spec_TakeBlock.j0, if_pos rfl]) (Ev.now _))), Ev.bind h2 (evn (by decide) (Ev.step (fun k => by rw [impl_TakeBlock.j0, if_pos rfl]) (Ev.now _)))⟩
 | true =>
  rw [hg] at h1 h2
  obtain ⟨ha, hc1, hc2⟩ := good_chains hg
  by_cases hn : n ≥ 0 ∧ n ≤ a
  case neg =>
   rw [if_neg (fun h => hn h.2)]
   exact ⟨Ev.bind h1 (evp rfl (ev_to_some (l1In_tells n 0 a) (by rw [decide_eq_false hn]; exact Ev.step (fun k => by rw [spec_TakeBlock.j0, if_pos (by decide)]) (Ev.now _)))),
    Ev.bind h2 (evp rfl (ev_to_some (within_tells n 0 a) (by rw [decide_eq_false hn]; exact Ev.step (fun k => by rw [impl_TakeBlock.j0, if_pos (by decide)]) (Ev.now _))))⟩
  case pos =>
   rw [if_pos ⟨rfl, hn⟩]
   have hb := bestB_in n fr fr.length 0 (-1) (by omega) (.inl rfl)
   have S1 := fun r => spec_best_l n a fr us (by omega) r fr.length 0 (-1) (by omega) (.inl rfl)
   have S2 := fun r => impl_best_l n a fr us (by omega) r fr.length 0 (-1) (by omega) (.inl rfl)
   rw [List.drop_zero] at hb
   simp only [List.drop_zero] at S1 S2
   rw [show ((0 : Nat) : Int) = 0 from rfl] at hb
   simp only [show ((0 : Nat) : Int) = 0 from rfl] at S1 S2
   generalize bestB n fr (-1) fr 0 = b at hb S1 S2
   have q1 : ∀ (R : Int × List S45 × List S45 × Int × Bool), Ev (fun k => spec_TakeBlock.l0 k n b fr (fr.length : Int) (fr.length : Int) a fr us) R → Ev (fun k => spec_TakeBlock.j0 k n (!decide (n ≥ 0 ∧ n ≤ a)) a fr us) R := fun R h => by
    rw [decide_eq_true hn]
    exact Ev.step (fun k => by rw [spec_TakeBlock.j0, if_neg (by decide)]) (S1 _ h)
   have q2 : ∀ (R : Int × List S45 × List S45 × Int × Bool), Ev (fun k => impl_TakeBlock.l0 k n b fr (fr.length : Int) (fr.length : Int) a fr us) R → Ev (fun k => impl_TakeBlock.j0 k n (!decide (n ≥ 0 ∧ n ≤ a)) a fr us) R := fun R h => by
    rw [decide_eq_true hn]
    exact Ev.step (fun k => by rw [impl_TakeBlock.j0, if_neg (by decide)]) (S2 _ h)
   refine ⟨Ev.bind h1 (evp rfl (ev_to_some (l1In_tells n 0 a) (q1 _ ?_))), Ev.bind h2 (evp rfl (ev_to_some (within_tells n 0 a) (q2 _ ?_)))⟩
   ·rcases hb with hb | ⟨b0, b1, b2⟩
    ·rw [if_pos (by omega)]
     exact Ev.step (fun k => by rw [spec_TakeBlock.l0, if_neg (by omega), if_pos (by omega)]) (Ev.now _)
    ·obtain ⟨b, rfl⟩ := Int.eq_ofNat_of_zero_le b0
     have hbl : b < fr.length := by omega
     rw [if_neg (by omega)]
     rw [Int.toNat_natCast, getb fr b hbl] at b2 ⊢
     have hbk := (chainB_low hc1 fr[b] (List.getElem_mem hbl)).2.2
     have ho := (blk_iff.mp hbk).1
     rw [lackB_at fr b hbl (ahead_rise (chainB_pair hc1))]
     refine Ev.step (fun k => by rw [spec_TakeBlock.l0, if_neg (by omega), if_neg (by omega), if_pos (by omega), if_pos (by omega), rd_block, getb fr b hbl]) (ev_to_some (without_tells fr (by omega) b hbl) ?_)
     have hs := spec_split_l n (fr[b]).f0 a fr us hn.1 (by omega) (fr[b]).f1.toNat (fr.take b ++ fr.drop (b + 1)) (by omega) (by omega) (by rw [List.length_append, List.length_take, List.length_drop]; omega)
     rw [Int.toNat_of_nonneg ho.1] at hs
     exact hs
   ·rcases hb with hb | ⟨b0, b1, b2⟩
    ·rw [if_pos (by omega)]
     exact Ev.step (fun k => by rw [impl_TakeBlock.l0, if_neg (by omega), if_pos (by omega)]) (Ev.now _)
    ·obtain ⟨b, rfl⟩ := Int.eq_ofNat_of_zero_le b0
     have hbl : b < fr.length := by omega
     rw [if_neg (by omega)]
     rw [Int.toNat_natCast, getb fr b hbl] at b2 ⊢
     have hbk := (chainB_low hc1 fr[b] (List.getElem_mem hbl)).2.2
     have ho := (blk_iff.mp hbk).1
     refine Ev.step (fun k => by rw [impl_TakeBlock.l0, if_neg (by omega), if_neg (by omega), if_pos (by omega), if_pos (by omega), rd_block, getb fr b hbl]) (ev_to_some (lack_tells fr (by omega) fr[b]) ?_)
     have hs := impl_split_l n (fr[b]).f0 a a fr us hn.1 (by omega) (rise_le (ahead_rise (chainB_pair hc2))) (fr[b]).f1.toNat (lackB fr fr[b]) (by omega) (by omega) (by have := lackB_length fr fr[b]; omega) ((rise_le (ahead_rise (chainB_pair hc1))).sublist (lackB_sub _ _))
     rw [Int.toNat_of_nonneg ho.1] at hs
     exact hs
theorem takeB_length (a n : Int) (fr us : List S45) (hf : fr.length < 2 ^ 38) (hu : us.length < 2 ^ 38) : (takeB a n fr us).2.1.length < 2 ^ 40 ∧ (takeB a n fr us).2.2.1.length < 2 ^ 40 := by
 unfold takeB
 split
 ·rename_i hg
  split
  ·exact ⟨by simp, by simp⟩
  ·rename_i hb
   obtain ⟨ha, hc1, hc2⟩ := good_chains hg.1
   have hbi := bestB_in n fr fr.length 0 (-1) (by omega) (.inl rfl)
   rw [List.drop_zero, show ((0 : Nat) : Int) = 0 from rfl] at hbi
   generalize bestB n fr (-1) fr 0 = b at hb hbi
   rcases hbi with h | ⟨b0, b1, _⟩
   ·omega
   ·obtain ⟨b, rfl⟩ := Int.eq_ofNat_of_zero_le b0
    have hbl : b < fr.length := by omega
    rw [Int.toNat_natCast, getb fr b hbl]
    have ho := (blk_iff.mp (chainB_low hc1 fr[b] (List.getElem_mem hbl)).2.2).1
    have h1 := splitB_length (fr[b]).f0 n (fr[b]).f1.toNat (lackB fr fr[b])
    have h2 := lackB_length fr fr[b]
    exact ⟨by show (splitB _ _ _ _).length < _; omega, by show (putB us _).length < _; rw [putB_length]; omega⟩
 ·exact ⟨by simp, by simp⟩
/-- the place of a block among blocks -/
theorem spec_at_in (l : List S45) (hl : l.length < 2 ^ 40) (a o : Int) (d : Nat) : ∀ i : Nat, i + d = l.length → ∃ r, Ev (fun k => spec_l6At.l0 k l (l.length : Int) (i : Int) a o) r ∧ ((r = -1 ∧ inB (l.drop i) a o = false) ∨ ∃ k : Nat, ∃ h : k < l.length, r = (k : Int) ∧ l[k] = ⟨a, o⟩ ∧ inB (l.drop i) a o = true) := by
 induction d with
 | zero =>
  intro i hi
  rw [List.drop_eq_nil_of_le (by omega)]
  exact ⟨-1, Ev.step (fun k => by simp only [spec_l6At.l0]; rw [if_neg (by omega)]) (Ev.now _), .inl ⟨rfl, rfl⟩⟩
 | succ d ih =>
  intro i hi
  have hlt : i < l.length := by omega
  obtain ⟨r, e, hr⟩ := ih (i + 1) (by omega)
  rw [List.drop_eq_getElem_cons hlt]
  unfold inB at hr ⊢
  rw [List.any_cons]
  cases hc : ((l[i]).f0 == a) && ((l[i]).f1 == o) with
  | true =>
   refine ⟨(i : Int), Ev.step (fun k => by simp only [spec_l6At.l0]; rw [if_pos (by omega), if_pos (by omega), if_pos (by omega), rd_block, getb l i hlt, hc, if_pos rfl]) (Ev.now _), .inr ⟨i, hlt, rfl, ?_, by rw [Bool.true_or]⟩⟩
   rw [Bool.and_eq_true, beq_iff_eq, beq_iff_eq] at hc
   rw [← hc.1, ← hc.2]
  | false => exact ⟨r, Ev.step (fun k => by simp only [spec_l6At.l0]; rw [if_pos (by omega), if_pos (by omega), if_pos (by omega), rd_block, getb l i hlt, hc, if_neg (by decide), inc i (by omega)]) e, by rw [Bool.false_or]; exact hr⟩
theorem spec_at_tells (l : List S45) (hl : l.length < 2 ^ 40) (a o : Int) : ∃ r, Ev (fun k => spec_l6At.f k l a o) r ∧ ((r = -1 ∧ inB l a o = false) ∨ ∃ k : Nat, ∃ h : k < l.length, r = (k : Int) ∧ l[k] = ⟨a, o⟩ ∧ inB l a o = true) := by
 obtain ⟨r, e, hr⟩ := spec_at_in l hl a o l.length 0 (by omega)
 rw [List.drop_zero] at hr
 exact ⟨r, e, hr⟩
def chkJ (o p : Nat) : Bool := p % 2 ^ o != 0 || (Go.bits .andNot .i64 (p : Int) (shl .i64 1 (o : Int)) == mn (p : Int) (bud (p : Int) (o : Int)) && (decide (0 ≤ mn (p : Int) (bud (p : Int) (o : Int))) && (mn (p : Int) (bud (p : Int) (o : Int)) % 2 ^ (o + 1) == 0 && decide (mn (p : Int) (bud (p : Int) (o : Int)) ≤ (p : Int)))))
theorem chkJs : ∀ o : Nat, o < 8 → ∀ p : Nat, p < 256 → chkJ o p = true := by decide +kernel
theorem join_bits {o p : Nat} (ho : o < 8) (hp : p < 256) (hm : p % 2 ^ o = 0) : ∃ q : Nat, mn (p : Int) (bud (p : Int) (o : Int)) = (q : Int) ∧ Go.bits .andNot .i64 (p : Int) (shl .i64 1 (o : Int)) = (q : Int) ∧ q % 2 ^ (o + 1) = 0 ∧ q ≤ p := by
 have h := chkJs o ho p hp
 unfold chkJ at h
 rw [hm] at h
 simp only [bne_self_eq_false, Bool.false_or, Bool.and_eq_true, beq_iff_eq, decide_eq_true_eq] at h
 obtain ⟨h1, h2, h3, h4⟩ := h
 obtain ⟨q, hq⟩ := Int.eq_ofNat_of_zero_le h2
 rw [hq] at h1 h3 h4
 refine ⟨q, hq, h1, ?_, by omega⟩
 rw [← pow_cast] at h3
 exact_mod_cast h3
/-- what is asked of a block that is given back, and of what is free beside it -/
structure JoinI (n o p : Nat) (F : List S45) : Prop where
 on : o ≤ n
 n8 : n ≤ 8
 al : p % 2 ^ o = 0
 fit : p + 2 ^ o ≤ 2 ^ n
 rise : List.Pairwise riseB F
 low : ∀ y ∈ F, 0 ≤ y.f0 ∧ y.f0 + szB y ≤ 2 ^ n ∧ blkB y = true
 len : F.length < 2 ^ 38
theorem up_fit {o n q : Nat} (hon : o + 1 ≤ n) (hq : q % 2 ^ (o + 1) = 0) (h : q < 2 ^ n) : q + 2 ^ (o + 1) ≤ 2 ^ n := by
 obtain ⟨e, rfl⟩ : ∃ e, n = o + 1 + e := ⟨n - (o + 1), by omega⟩
 obtain ⟨m, rfl⟩ := Nat.dvd_of_mod_eq_zero hq
 rw [Nat.pow_add 2 (o + 1) e] at h ⊢
 have h1 : m < 2 ^ e := Nat.lt_of_mul_lt_mul_left h
 calc 2 ^ (o + 1) * m + 2 ^ (o + 1) = 2 ^ (o + 1) * (m + 1) := by rw [Nat.mul_add, Nat.mul_one]
  _ ≤ _ := Nat.mul_le_mul_left _ h1
theorem JoinI.up {n o p : Nat} {F : List S45} (h : JoinI n o p F) (ho : o < n) (b : S45) {q : Nat} (hq : q % 2 ^ (o + 1) = 0) (hle : q ≤ p) : JoinI n (o + 1) q (lackB F b) where
 on := ho
 n8 := h.n8
 al := hq
 fit := up_fit ho hq (by have := h.fit; have := Nat.two_pow_pos o; omega)
 rise := h.rise.sublist (lackB_sub _ _)
 low := fun y hy => h.low y ((lackB_sub F b).subset hy)
 len := Nat.lt_of_le_of_lt (lackB_length _ _) h.len
theorem JoinI.lt256 {n o p : Nat} {F : List S45} (h : JoinI n o p F) : p < 256 := by
 have h1 := h.fit
 have h2 := Nat.two_pow_pos o
 have h3 : 2 ^ n ≤ 2 ^ 8 := Nat.pow_le_pow_right (by omega) h.n8
 omega
/-- the blocks free when a block is given back: it joins with its buddy as long as that is free -/
def joinB : Nat → Nat → Nat → List S45 → List S45
 | 0, o, p, F => putB F ⟨(p : Int), (o : Int)⟩
 | d + 1, o, p, F => if inB F (bud (p : Int) (o : Int)) (o : Int) = true then joinB d (o + 1) (mn (p : Int) (bud (p : Int) (o : Int))).toNat (lackB F ⟨bud (p : Int) (o : Int), (o : Int)⟩) else putB F ⟨(p : Int), (o : Int)⟩
theorem joinB_length : ∀ (d o p : Nat) (F : List S45), (joinB d o p F).length ≤ F.length + 1
 | 0, o, p, F => by rw [joinB, putB_length]; exact Nat.le_refl _
 | d + 1, o, p, F => by
  rw [joinB]
  split
  ·have h1 := joinB_length d (o + 1) (mn (p : Int) (bud (p : Int) (o : Int))).toNat (lackB F ⟨bud (p : Int) (o : Int), (o : Int)⟩)
   have h2 := lackB_length F ⟨bud (p : Int) (o : Int), (o : Int)⟩
   omega
  ·rw [putB_length]; exact Nat.le_refl _
theorem spec_join_l (n ki : Nat) (fr us us' : List S45) (hus : spec_l6Without.f us (ki : Int) = some us') : ∀ (d o p : Nat) (F : List S45), o + d = n → JoinI n o p F →
  Ev (fun k => spec_GiveBlock.l1 k (ki : Int) F (n : Int) fr us (p : Int) (o : Int)) ((n : Int), joinB d o p F, us', true)
 | 0, o, p, F, hd, hI => by
  have hlen := hI.len
  refine Ev.step (fun k => by rw [spec_GiveBlock.l1, if_neg (by omega)]) ?_
  exact Ev.bind (put_tells F (by omega) _ _) (ev_to_some hus (Ev.now _))
 | d + 1, o, p, F, hd, hI => by
  have hlen := hI.len
  have hn8 := hI.n8
  obtain ⟨r, e, hr⟩ := spec_at_tells F (by omega) (bud (p : Int) (o : Int)) (o : Int)
  refine Ev.step (fun k => by rw [spec_GiveBlock.l1, if_pos (by omega), spec_buddy_tells (p : Int) (o : Int) (by omega) (by omega), Option.bind_some]) ?_
  refine Ev.bind e ?_
  rw [joinB]
  rcases hr with ⟨rfl, hin⟩ | ⟨k, hk, rfl, hat, hin⟩
  ·rw [if_neg (by rw [hin]; decide)]
   exact evp (by omega) (Ev.bind (put_tells F (by omega) _ _) (ev_to_some hus (Ev.now _)))
  ·rw [if_pos hin]
   obtain ⟨q, q1, q2, q3, q4⟩ := join_bits (show o < 8 by omega) hI.lt256 hI.al
   have hlk := lackB_at F k hk hI.rise
   rw [hat] at hlk
   refine evn (nn k) (ev_to_some (without_tells F (by omega) k hk) ?_)
   refine evp (by rw [u64_small _ (by omega) (by omega)]; omega) ?_
   rw [u64_small _ (by omega) (by omega), q2, q1, Int.toNat_natCast, inc o (by omega), ← hlk]
   exact spec_join_l n ki fr us us' hus d (o + 1) q _ (by omega) (hI.up (by omega) _ q3 q4)
theorem impl_join_l (n : Nat) (us' : List S45) : ∀ (d o p : Nat) (F : List S45), o + d = n → JoinI n o p F →
  Ev (fun k => impl_GiveBlock.l0 k (p : Int) (o : Int) (n : Int) F us') ((n : Int), joinB d o p F, us', true)
 | 0, o, p, F, hd, hI => by
  have hlen := hI.len
  have hn8 := hI.n8
  have hfit := hI.fit
  obtain rfl : o = n := by omega
  obtain rfl : p = 0 := by omega
  have hno : inB F (bud ((0 : Nat) : Int) (o : Int)) (o : Int) = false := by
   rw [show bud ((0 : Nat) : Int) (o : Int) = 2 ^ o from bud_top o hn8]
   unfold inB
   rw [List.any_eq_false]
   intro y hy hyc
   rw [Bool.and_eq_true, beq_iff_eq, beq_iff_eq] at hyc
   obtain ⟨_, k2, _⟩ := hI.low y hy
   have := szB_pos y
   omega
  refine Ev.step (fun k => by rw [impl_GiveBlock.l0, impl_buddy_tells ((0 : Nat) : Int) (o : Int) (by omega) (by omega), Option.bind_some]) ?_
  refine Ev.bind (impl_has F (by omega) _ _) ?_
  rw [hno]
  exact evn (by decide) (ev_to_some (with_tells F (by omega) (rise_le hI.rise) _ _) (Ev.now _))
 | d + 1, o, p, F, hd, hI => by
  have hlen := hI.len
  have hn8 := hI.n8
  refine Ev.step (fun k => by rw [impl_GiveBlock.l0, impl_buddy_tells (p : Int) (o : Int) (by omega) (by omega), Option.bind_some]) ?_
  refine Ev.bind (impl_has F (by omega) _ _) ?_
  rw [joinB]
  cases hin : inB F (bud (p : Int) (o : Int)) (o : Int) with
  | false =>
   rw [if_neg (by decide)]
   exact evn (by decide) (ev_to_some (with_tells F (by omega) (rise_le hI.rise) _ _) (Ev.now _))
  | true =>
   rw [if_pos rfl]
   obtain ⟨q, q1, q2, q3, q4⟩ := join_bits (show o < 8 by omega) hI.lt256 hI.al
   refine evp rfl (ev_some (ev_to_some (lack_tells F (by omega) ⟨bud (p : Int) (o : Int), (o : Int)⟩) (ev_some ?_)))
   rw [q1, Int.toNat_natCast, inc o (by omega)]
   exact impl_join_l n us' d (o + 1) q _ (by omega) (hI.up (by omega) _ q3 q4)
theorem firstB_step (t : Int) (l : List S45) (i : Nat) (h : i < l.length) : firstB (fun y => y.f0 == t) (l.drop i) (i : Int) = if (l[i]).f0 = t then (i : Int) else firstB (fun y => y.f0 == t) (l.drop (i + 1)) ((i + 1 : Nat) : Int) := by
 rw [List.drop_eq_getElem_cons h, firstB]
 by_cases hc : (l[i]).f0 = t
 ·rw [if_pos (by rw [hc]; exact beq_self_eq_true t), if_pos hc]
 ·rw [if_neg (by rw [beq_iff_eq]; exact hc), if_neg hc]; rfl
theorem spec_first_l (n t : Int) (fr us : List S45) (hf : fr.length < 2 ^ 40) (hu : us.length < 2 ^ 40) (R : Int × List S45 × List S45 × Bool) (d : Nat) : ∀ i : Nat, i + d = us.length →
  (firstB (fun y => y.f0 == t) (us.drop i) (i : Int) = -1 → R = (0, [], [], false)) → (∀ k : Nat, (hk : k < us.length) → firstB (fun y => y.f0 == t) (us.drop i) (i : Int) = (k : Int) → Ev (fun q => spec_GiveBlock.l1 q (k : Int) fr n fr us (us[k]).f0 (us[k]).f1) R) →
  Ev (fun q => spec_GiveBlock.l0 q t us (us.length : Int) (i : Int) n fr us) R := by
 induction d with
 | zero =>
  intro i hi h1 _
  rw [List.drop_eq_nil_of_le (by omega), firstB] at h1
  rw [h1 rfl]
  exact Ev.step (fun k => by rw [spec_GiveBlock.l0, if_neg (by omega)]) (Ev.now _)
 | succ d ih =>
  intro i hi h1 h2
  have hlt : i < us.length := by omega
  rw [firstB_step t us i hlt] at h1
  by_cases hc : (us[i]).f0 = t
  ·have h3 := h2 i hlt (by rw [firstB_step t us i hlt, if_pos hc])
   refine Ev.step (fun k => ?_) h3
   rw [spec_GiveBlock.l0, if_pos (by omega), if_pos (by omega), if_pos (by omega), rd_block, getb us i hlt, if_pos hc, Option.bind_some, if_pos (by rw [List.length_nil]; omega), List.nil_append]
  ·rw [if_neg hc] at h1
   refine Ev.step (fun k => by rw [spec_GiveBlock.l0, if_pos (by omega), if_pos (by omega), if_pos (by omega), rd_block, getb us i hlt, if_neg hc, inc i (by omega)]) (ih (i + 1) (by omega) h1 (fun k hk he => h2 k hk ?_))
   rw [firstB_step t us i hlt, if_neg hc]; exact he
theorem firstB_cases (p : S45 → Bool) : ∀ (l : List S45) (i : Nat), firstB p l (i : Int) = -1 ∨ ∃ k : Nat, k < l.length ∧ firstB p l (i : Int) = ((i + k : Nat) : Int)
 | [], _ => .inl rfl
 | x :: l, i => by
  rw [firstB]
  split
  ·exact .inr ⟨0, by simp, rfl⟩
  ·rw [show (i : Int) + 1 = ((i + 1 : Nat) : Int) by omega]
   rcases firstB_cases p l (i + 1) with h | ⟨k, hk, h⟩
   ·exact .inl h
   ·exact .inr ⟨k + 1, by simpa using hk, by rw [h]; congr 1; omega⟩
/-- what both give -/
def giveB (a t : Int) (fr us : List S45) : Int × List S45 × List S45 × Bool :=
 if goodB a fr us = true then
  (if firstB (fun y => y.f0 == t) us 0 < 0 then (0, [], [], false)
  else (a, joinB (a.toNat - (us.getD (firstB (fun y => y.f0 == t) us 0).toNat z45).f1.toNat) (us.getD (firstB (fun y => y.f0 == t) us 0).toNat z45).f1.toNat (us.getD (firstB (fun y => y.f0 == t) us 0).toNat z45).f0.toNat fr, lackB us (us.getD (firstB (fun y => y.f0 == t) us 0).toNat z45), true))
 else (0, [], [], false)
theorem order_le {n m : Nat} (h : (2 : Int) ^ m ≤ 2 ^ n) : m ≤ n := by
 rcases Nat.lt_or_ge n m with hlt | hge
 ·have h4 := pow_mono (show n + 1 ≤ m by omega)
  rw [Int.pow_succ] at h4
  have h5 : (1 : Int) ≤ 2 ^ n := by have := Nat.two_pow_pos n; rw [← pow_cast]; omega
  omega
 ·exact hge
theorem joinI_start {n : Nat} (hn : n ≤ 8) {fr us : List S45} (hc1 : chainB (2 ^ n) 0 fr = true) (hc2 : chainB (2 ^ n) 0 us = true) (hf : fr.length < 2 ^ 38) {x : S45} (hx : x ∈ us) : ∃ o p : Nat, x.f0 = (p : Int) ∧ x.f1 = (o : Int) ∧ JoinI n o p fr := by
 obtain ⟨l1, l2, l3⟩ := chainB_low hc2 x hx
 obtain ⟨⟨b1, b2⟩, _, b4⟩ := blk_iff.mp l3
 obtain ⟨o, ho⟩ := Int.eq_ofNat_of_zero_le b1
 obtain ⟨p, hp⟩ := Int.eq_ofNat_of_zero_le l1
 have hsz : szB x = 2 ^ o := by unfold szB; rw [ho]; rfl
 rw [hp, ho] at b4
 rw [hp, hsz] at l2
 have hal : p % 2 ^ o = 0 := by
  rw [Int.tmod_eq_emod_of_nonneg (by omega), show ((o : Int)).toNat = o from rfl, ← pow_cast] at b4
  exact_mod_cast b4
 have hfit : p + 2 ^ o ≤ 2 ^ n := by rw [← pow_cast, ← pow_cast] at l2; exact_mod_cast l2
 refine ⟨o, p, hp, ho, order_le ?_, hn, hal, hfit, ahead_rise (chainB_pair hc1), fun y hy => chainB_low hc1 y hy, hf⟩
 omega
theorem giveB_tells (a t : Int) (fr us : List S45) (hf : fr.length < 2 ^ 38) (hu : us.length < 2 ^ 38) : Ev (fun k => spec_GiveBlock.f k a fr us t) (giveB a t fr us) ∧ Ev (fun k => impl_GiveBlock.f k a fr us t) (giveB a t fr us) := by
 unfold spec_GiveBlock.f impl_GiveBlock.f giveB
 have h1 := spec_goodB a fr us (by omega) (by omega)
 have h2 := impl_goodB a fr us hf hu
 have hfi : impl_Block_33.f us t = some (firstB (fun y => y.f0 == t) us 0) := rfl
 cases hg : goodB a fr us with
 | false =>
  rw [hg] at h1 h2
  rw [if_neg (by decide)]
  exact ⟨Ev.bind h1 (evn (by decide) (Ev.now _)), ev_to_some hfi (Ev.bind h2 (evn (by decide) (Ev.step (fun k => by rw [impl_GiveBlock.j0, if_pos rfl]) (Ev.now _))))⟩
 | true =>
  rw [hg] at h1 h2
  rw [if_pos rfl]
  obtain ⟨ha, hc1, hc2⟩ := good_chains hg
  obtain ⟨n, rfl⟩ := Int.eq_ofNat_of_zero_le ha.1
  rw [Int.toNat_natCast] at hc1 hc2
  have S1 := fun R => spec_first_l (n : Int) t fr us (by omega) (by omega) R us.length 0 (by omega)
  simp only [List.drop_zero, show ((0 : Nat) : Int) = 0 from rfl] at S1
  have hcs := firstB_cases (fun y => y.f0 == t) us 0
  rw [show ((0 : Nat) : Int) = 0 from rfl] at hcs
  generalize firstB (fun y => y.f0 == t) us 0 = b at hfi S1 hcs
  rcases hcs with rfl | ⟨k, hk, rfl⟩
  ·rw [if_pos (by decide)]
   exact ⟨Ev.bind h1 (evp rfl (S1 _ (fun _ => rfl) (fun k _ h => by omega))), ev_to_some hfi (Ev.bind h2 (evp rfl (Ev.step (fun k => by rw [impl_GiveBlock.j0, if_pos (by decide)]) (Ev.now _))))⟩
  ·rw [Nat.zero_add] at hfi S1 ⊢
   rw [if_neg (nn k)]
   simp only [Int.toNat_natCast, getb us k hk]
   obtain ⟨o, p, hp, ho, hI⟩ := joinI_start (show n ≤ 8 by omega) hc1 hc2 hf (List.getElem_mem hk)
   have hlk := lackB_at us k hk (ahead_rise (chainB_pair hc2))
   have hon := hI.on
   simp only [hp, ho, Int.toNat_natCast]
   refine ⟨Ev.bind h1 (evp rfl (S1 _ (fun h => by omega) (fun k' hk' he => ?_))), ev_to_some hfi (Ev.bind h2 (evp rfl (Ev.step (fun q => by rw [impl_GiveBlock.j0, decide_eq_false (nn k), if_neg (by decide), if_pos (by omega), if_pos (by omega), rd_block, getb us k hk]) ?_)))⟩
   ·obtain rfl : k = k' := by omega
    rw [hp, ho]
    exact spec_join_l n k fr us _ (by rw [hlk]; exact without_tells us (by omega) k hk) (n - o) o p fr (by omega) hI
   ·refine ev_to_some (show impl_Block_35.f fr = some fr by unfold impl_Block_35.f; rw [if_pos (by omega)]) (ev_to_some (lack_tells us (by omega) us[k]) ?_)
    rw [hp, ho]
    exact impl_join_l n _ (n - o) o p fr (by omega) hI
theorem giveB_length (a t : Int) (fr us : List S45) (hf : fr.length < 2 ^ 38) (hu : us.length < 2 ^ 38) : (giveB a t fr us).2.1.length < 2 ^ 40 ∧ (giveB a t fr us).2.2.1.length < 2 ^ 40 := by
 unfold giveB
 split
 ·split
  ·exact ⟨by simp, by simp⟩
  ·refine ⟨Nat.lt_of_le_of_lt (joinB_length _ _ _ _) (by omega), Nat.lt_of_le_of_lt (lackB_length _ _) (by omega)⟩
 ·exact ⟨by simp, by simp⟩
def grB : Int → List S45 → Int
 | g, [] => g
 | g, x :: l => grB (if x.f1 > g then x.f1 else g) l
theorem mx_gr (g x : Int) : mx g x = if x > g then x else g := by unfold mx; split <;> (try split) <;> omega
theorem impl_bytes_l (l : List S45) (hl : l.length < 2 ^ 38) (hb : ∀ x ∈ l, blkB x = true) (d : Nat) : ∀ (i : Nat) (S g : Int), i + d = l.length → 0 ≤ S → S ≤ 256 * (i : Int) → Ev (fun k => impl_BytesFree.l0 k S g l (l.length : Int) (i : Int)) (S + sumB (l.drop i), grB g (l.drop i), true) := by
 induction d with
 | zero =>
  intro i S g hi _ _
  rw [List.drop_eq_nil_of_le (by omega), sumB, grB, Int.add_zero]
  exact Ev.step (fun k => by simp only [impl_BytesFree.l0]; rw [if_neg (by omega)]) (Ev.now _)
 | succ d ih =>
  intro i S g hi h0 h1
  have hlt : i < l.length := by omega
  have hx := hb _ (List.getElem_mem hlt)
  have q1 := szB_pos l[i]
  have q2 := szB_le hx
  have w2 : wrap64 (S + szB l[i]) = S + szB l[i] := by unfold wrap64; omega
  have hsz : impl_Block_size.f (l[i]).f0 (l[i]).f1 = some (szB l[i]) := by
   unfold impl_Block_size.f
   rw [if_pos (blk_iff.mp hx).1.1, szB_shl' hx]
  rw [List.drop_eq_getElem_cons hlt, sumB, grB, ← Int.add_assoc]
  refine Ev.step (fun k => by simp only [impl_BytesFree.l0]; rw [if_pos (by omega), if_pos (by omega), if_pos (by omega), rd_block, getb l i hlt, hsz, Option.bind_some, w2, mx_gr, inc i (by omega)]) ?_
  exact ih (i + 1) _ _ (by omega) (by omega) (by omega)

theorem cur_wraps (n : Int) (h₀ : 0 ≤ n) (h₁ : n < 2 ^ 64) : IntKind.u64.wrap n = n := by rw [IntKind.wrap_u64]; omega
theorem cur_and (y : Int) (h0 : 0 ≤ y) (h1 : y < 2 ^ 64) : Go.bits .and .u64 y 255 = y % 256 := bits_mask .u64 64 (by decide) cur_wraps 8 (by decide) y h0 h1
theorem cur_byte (u : Int) : ∃ b : Int, wrap64 (Go.bits .and .u64 ((IntKind.u64.wrap u) / 1099511627776) 255) = b ∧ 0 ≤ b ∧ b ≤ 255 := by
 refine ⟨_, rfl, ?_⟩
 have h := IntKind.wrap_u64 u
 generalize IntKind.u64.wrap u = v at h
 have hv : 0 ≤ v ∧ v < 2 ^ 64 := by omega
 clear h
 obtain ⟨y, hy⟩ : ∃ y, y = v / 1099511627776 := ⟨_, rfl⟩
 rw [← hy, cur_and y (by omega) (by omega)]
 clear hv
 unfold wrap64
 omega
theorem cur_rd (xs : List Int) (hb : ∀ x ∈ xs, (Lit.int .u8 x).wf = true) (i : Int) (h0 : 0 ≤ i) (h1 : i < (xs.length : Int)) : 0 ≤ rd xs i ∧ rd xs i ≤ 255 := by
 have hm : rd xs i ∈ xs := by
  unfold rd
  rw [List.getD_eq_getElem?_getD, List.getElem?_eq_getElem (show i.toNat < xs.length by omega)]
  simp
 have := bounds_u8 (hb _ hm)
 omega
section
variable (xs : List Int) (hb : ∀ x ∈ xs, (Lit.int .u8 x).wf = true)
include hb
theorem cur_next (a s n : Int) (h0 : 0 ≤ a) (h1 : a ≤ n) (hn : n < 2 ^ 60) : ∃ b a' s', spec_l1Cur_next.f xs a s = some (b, a', s') ∧ 0 ≤ b ∧ b ≤ 255 ∧ 0 ≤ a' ∧ a' ≤ n + 1 := by
 have hw : wrap64 (a + 1) = a + 1 := by unfold wrap64; omega
 unfold spec_l1Cur_next.f
 rw [hw]
 by_cases c1 : a < (xs.length : Int)
 ·have hr := cur_rd xs hb a h0 c1
  rw [if_pos c1, if_pos h0]
  have hr2 : wrap64 (rd xs a) = rd xs a := by unfold wrap64; omega
  rw [hr2]
  by_cases c2 : a + 1 ≤ (xs.length : Int)
  ·rw [if_pos c2]; exact ⟨_, _, _, rfl, hr.1, hr.2, by omega, by omega⟩
  ·omega
 ·rw [if_neg c1, if_neg (by omega)]
  obtain ⟨b, hb1, hb2, hb3⟩ := cur_byte ((IntKind.u64.wrap ((IntKind.u64.wrap (s * 6364136223846793005)) + 0)) + 1442695040888963407)
  rw [hb1]
  exact ⟨_, _, _, rfl, hb2, hb3, by omega, by omega⟩
theorem cur_pick (a s n m : Int) (h0 : 0 ≤ a) (h1 : a ≤ n) (hn : n < 2 ^ 59) (hm : m < 2 ^ 40) : ∃ b a' s', spec_l1Cur_pick.f xs a s m = some (b, a', s') ∧ 0 ≤ b ∧ (b < m ∨ b = 0) ∧ 0 ≤ a' ∧ a' ≤ n + 2 := by
 unfold spec_l1Cur_pick.f
 by_cases c1 : m ≤ 1
 ·rw [if_pos c1]; exact ⟨0, a, s, rfl, by omega, .inr rfl, h0, by omega⟩
 ·obtain ⟨b, a1, s1, e1, b0, b1, p0, p1⟩ := cur_next xs hb a s n h0 h1 (by omega)
  rw [if_neg c1, e1]
  simp only [Option.bind_some]
  by_cases c2 : m > 200
  ·obtain ⟨b2, a2, s2, e2, q0, q1, r0, r1⟩ := cur_next xs hb a1 s1 (n + 1) p0 p1 (by omega)
   rw [if_pos c2, e2]
   simp only [Option.bind_some]
   rw [if_neg (by omega)]
   have hw : wrap64 ((wrap64 (b * 256)) + b2) = b * 256 + b2 := by unfold wrap64; omega
   rw [hw, Int.tmod_eq_emod_of_nonneg (by omega)]
   have h1 := Int.emod_nonneg (b * 256 + b2) (show m ≠ 0 by omega)
   have h2 := Int.emod_lt_of_pos (b * 256 + b2) (show 0 < m by omega)
   exact ⟨_, _, _, rfl, h1, .inl h2, r0, by omega⟩
  ·rw [if_neg c2, if_neg (by omega), Int.tmod_eq_emod_of_nonneg (by omega)]
   have h1 := Int.emod_nonneg b (show m ≠ 0 by omega)
   have h2 := Int.emod_lt_of_pos b (show 0 < m by omega)
   exact ⟨_, _, _, rfl, h1, .inl h2, p0, by omega⟩
end

section
variable (xs : List Int) (hb : ∀ x ∈ xs, (Lit.int .u8 x).wf = true)
include hb
theorem cur_one (a s n m : Int) (h0 : 0 ≤ a) (h1 : a ≤ n) (hn : n < 2 ^ 59) (hm : m < 2 ^ 40) : ∃ b a' s', spec_l1Cur_one.f xs a s m = some (b, a', s') ∧ 0 ≤ a' ∧ a' ≤ n + 2 := by
 obtain ⟨i, a1, s1, e1, i0, i1, p0, p1⟩ := cur_pick xs hb a s n m h0 h1 hn hm
 unfold spec_l1Cur_one.f
 rw [e1]
 exact ⟨_, _, _, rfl, p0, p1⟩
end

theorem takeB_grow (a n : Int) (fr us : List S45) : (takeB a n fr us).2.1.length ≤ fr.length + 8 ∧ (takeB a n fr us).2.2.1.length ≤ us.length + 1 := by
 unfold takeB
 split
 ·rename_i hg
  split
  ·exact ⟨by simp, by simp⟩
  ·rename_i hb
   obtain ⟨ha, hc1, hc2⟩ := good_chains hg.1
   have hbi := bestB_in n fr fr.length 0 (-1) (by omega) (.inl rfl)
   rw [List.drop_zero, show ((0 : Nat) : Int) = 0 from rfl] at hbi
   generalize bestB n fr (-1) fr 0 = b at hb hbi
   rcases hbi with h | ⟨b0, b1, _⟩
   ·omega
   ·obtain ⟨b, rfl⟩ := Int.eq_ofNat_of_zero_le b0
    have hbl : b < fr.length := by omega
    rw [Int.toNat_natCast, getb fr b hbl]
    have ho := (blk_iff.mp (chainB_low hc1 fr[b] (List.getElem_mem hbl)).2.2).1
    have h1 := splitB_length (fr[b]).f0 n (fr[b]).f1.toNat (lackB fr fr[b])
    have h2 := lackB_length fr fr[b]
    exact ⟨by show (splitB _ _ _ _).length ≤ _; omega, by show (putB us _).length ≤ _; rw [putB_length]; omega⟩
 ·exact ⟨by simp, by simp⟩
theorem giveB_grow (a t : Int) (fr us : List S45) : (giveB a t fr us).2.1.length ≤ fr.length + 8 ∧ (giveB a t fr us).2.2.1.length ≤ us.length + 1 := by
 unfold giveB
 split
 ·split
  ·exact ⟨by simp, by simp⟩
  ·refine ⟨Nat.le_trans (joinB_length _ _ _ _) (by omega), Nat.le_trans (lackB_length _ _) (by omega)⟩
 ·exact ⟨by simp, by simp⟩
theorem newBuddy_f (a : Int) : ∃ b, spec_NewBuddy.f a = some b ∧ b.2.1.length ≤ 1 ∧ b.2.2.1.length ≤ 1 := by
 unfold spec_NewBuddy.f
 rw [l1In_tells]
 rw [Option.bind_some]
 split
 ·exact ⟨_, rfl, by simp, by simp⟩
 ·exact ⟨_, rfl, by simp, by simp⟩
section
variable (cs : List Int) (hb : ∀ x ∈ cs, (Lit.int .u8 x).wf = true)
include hb
theorem d_buddy_l : ∀ (d : Nat) (A : Int) (F U : List S45) (N a s : Int), d ≤ 20 → F.length + 8 * d ≤ 400 → U.length + d ≤ 400 → N + 20 * (d : Int) < 2 ^ 40 → 0 ≤ a → a ≤ N →
  ∃ A' F' U' a' s', Ev (fun k => spec_l1Cur_buddy.l0 k (d : Int) cs a s A F U) (A', F', U', a', s') ∧ F'.length ≤ 500 ∧ U'.length ≤ 500 ∧ 0 ≤ a' ∧ a' ≤ N + 20 * (d : Int) + 20
 | 0, A, F, U, N, a, s, _, hF, hU, hN, h0, h1 => by
  obtain ⟨c, a1, s1, e1, c0, c1, p0, p1⟩ := cur_pick cs hb a s N 40 h0 h1 (by omega) (by omega)
  have st : ∀ R, Ev (fun k => if c = 0 then ((spec_l1Cur_pick.f cs a1 s1 11).bind fun bt377 => (some (wrap64 (bt377.1 - 1), F, U, bt377.2.1, bt377.2.2))) else (if c = 1 then ((spec_l1Cur_pick.f cs a1 s1 9).bind fun bt380 => ((spec_l1Cur_pick.f cs bt380.2.1 bt380.2.2 3).bind fun bt383 => (if U.length < 8796093022208 then (some (A, F, (U ++ [(⟨bt380.1, bt383.1⟩ : S45)]), bt383.2.1, bt383.2.2)) else (none)))) else (if c = 2 then (if (F.length : Int) > 0 then (if 0 < (F.length : Int) then (some (A, (F.set (0 : Int).toNat (⟨(rd_T45 F 0).f0, wrap64 (((rd_T45 F 0).f1) + 1)⟩ : S45)), U, a1, s1)) else (none)) else (some (A, F, U, a1, s1))) else (some (A, F, U, a1, s1))))) R → Ev (fun k => spec_l1Cur_buddy.l0 k ((0 : Nat) : Int) cs a s A F U) R := fun R h =>
   Ev.step (fun k => by rw [spec_l1Cur_buddy.l0, if_neg (by omega), e1, Option.bind_some]) h
  by_cases k0 : c = 0
  ·obtain ⟨c2, a2, s2, e2, _, _, q0, q1⟩ := cur_pick cs hb a1 s1 (N + 2) 11 p0 p1 (by omega) (by omega)
   exact ⟨_, F, U, a2, s2, st _ (evp k0 (ev_to_some e2 (Ev.now _))), by omega, by omega, q0, by omega⟩
  ·by_cases k1 : c = 1
   ·obtain ⟨c2, a2, s2, e2, _, _, q0, q1⟩ := cur_pick cs hb a1 s1 (N + 2) 9 p0 p1 (by omega) (by omega)
    obtain ⟨c3, a3, s3, e3, _, _, r0, r1⟩ := cur_pick cs hb a2 s2 (N + 4) 3 q0 (by omega) (by omega) (by omega)
    exact ⟨A, F, _, a3, s3, st _ (evn k0 (evp k1 (ev_to_some e2 (ev_to_some e3 (evp (by omega) (Ev.now _)))))), by omega, by rw [List.length_append]; show _ + 1 ≤ _; omega, r0, by omega⟩
   ·by_cases k2 : c = 2
    ·by_cases k3 : (F.length : Int) > 0
     ·exact ⟨A, _, U, a1, s1, st _ (evn k0 (evn k1 (evp k2 (evp k3 (evp (by omega) (Ev.now _)))))), by rw [List.length_set]; omega, by omega, p0, by omega⟩
     ·exact ⟨A, F, U, a1, s1, st _ (evn k0 (evn k1 (evp k2 (evn k3 (Ev.now _))))), by omega, by omega, p0, by omega⟩
    ·exact ⟨A, F, U, a1, s1, st _ (evn k0 (evn k1 (evn k2 (Ev.now _)))), by omega, by omega, p0, by omega⟩
 | d + 1, A, F, U, N, a, s, hd, hF, hU, hN, h0, h1 => by
  have hw : wrap64 (((d + 1 : Nat) : Int) - 1) = (d : Int) := by unfold wrap64; omega
  -- a taking
  have take : ∀ (a1 s1 : Int), 0 ≤ a1 → a1 ≤ N + 4 → ∃ A' F' U' a' s', Ev (fun k => spec_l1Cur_buddy.j1 k ((d + 1 : Nat) : Int) false cs a1 s1 A F U) (A', F', U', a', s') ∧ F'.length ≤ 500 ∧ U'.length ≤ 500 ∧ 0 ≤ a' ∧ a' ≤ N + 20 * ((d + 1 : Nat) : Int) + 20 := fun a1 s1 p0 p1 => by
   obtain ⟨c2, a2, s2, e2, _, _, q0, q1⟩ := cur_pick cs hb a1 s1 (N + 4) 4 p0 p1 (by omega) (by omega)
   have ht := (takeB_tells A c2 F U (by omega) (by omega)).1
   obtain ⟨g1, g2⟩ := takeB_grow A c2 F U
   generalize takeB A c2 F U = T at ht g1 g2
   obtain ⟨T1, T2, T3, T4, T5⟩ := T
   have st : ∀ R, Ev (fun k => if T5 = true then (spec_l1Cur_buddy.l0 k (d : Int) cs a2 s2 T1 T2 T3) else (spec_l1Cur_buddy.l0 k (d : Int) cs a2 s2 A F U)) R → Ev (fun k => spec_l1Cur_buddy.j1 k ((d + 1 : Nat) : Int) false cs a1 s1 A F U) R := fun R h =>
    Ev.step (fun k => by rw [spec_l1Cur_buddy.j1, if_neg (by decide), e2, Option.bind_some, hw]) (Ev.bind ht h)
   cases T5 with
   | true =>
    obtain ⟨A', F', U', a', s', e3, f1, f2, f3, f4⟩ := d_buddy_l d T1 T2 T3 (N + 6) a2 s2 (by omega) (by simp only at g1; omega) (by simp only at g2; omega) (by omega) q0 (by omega)
    exact ⟨A', F', U', a', s', st _ (evp rfl e3), f1, f2, f3, by omega⟩
   | false =>
    obtain ⟨A', F', U', a', s', e3, f1, f2, f3, f4⟩ := d_buddy_l d A F U (N + 6) a2 s2 (by omega) (by omega) (by omega) (by omega) q0 (by omega)
    exact ⟨A', F', U', a', s', st _ (evn (by decide) e3), f1, f2, f3, by omega⟩
  by_cases hu : (U.length : Int) > 0
  ·obtain ⟨o, a1, s1, e1, p0, p1⟩ := cur_one cs hb a s N 3 h0 h1 (by omega) (by omega)
   have st0 : ∀ R, Ev (fun k => spec_l1Cur_buddy.j1 k ((d + 1 : Nat) : Int) o cs a1 s1 A F U) R → Ev (fun k => spec_l1Cur_buddy.l0 k ((d + 1 : Nat) : Int) cs a s A F U) R := fun R h =>
    Ev.step (fun k => by rw [spec_l1Cur_buddy.l0, if_pos (by omega), if_pos hu, e1, Option.bind_some]) h
   cases o with
   | false =>
    obtain ⟨A', F', U', a', s', e3, f1, f2, f3, f4⟩ := take a1 s1 p0 (by omega)
    exact ⟨A', F', U', a', s', st0 _ e3, f1, f2, f3, f4⟩
   | true =>
    obtain ⟨c2, a2, s2, e2, c0, c1, q0, q1⟩ := cur_pick cs hb a1 s1 (N + 2) (U.length : Int) p0 p1 (by omega) (by omega)
    have hg := (giveB_tells A (rd_T45 U c2).f0 F U (by omega) (by omega)).1
    obtain ⟨g1, g2⟩ := giveB_grow A (rd_T45 U c2).f0 F U
    generalize giveB A (rd_T45 U c2).f0 F U = T at hg g1 g2
    obtain ⟨T1, T2, T3, T5⟩ := T
    have st : ∀ R, Ev (fun k => if T5 = true then (spec_l1Cur_buddy.l0 k (d : Int) cs a2 s2 T1 T2 T3) else (spec_l1Cur_buddy.l0 k (d : Int) cs a2 s2 A F U)) R → Ev (fun k => spec_l1Cur_buddy.j1 k ((d + 1 : Nat) : Int) true cs a1 s1 A F U) R := fun R h =>
     Ev.step (fun k => by rw [spec_l1Cur_buddy.j1, if_pos rfl, e2, Option.bind_some, if_pos c0, if_pos (by omega), hw]) (Ev.bind hg h)
    cases T5 with
    | true =>
     obtain ⟨A', F', U', a', s', e3, f1, f2, f3, f4⟩ := d_buddy_l d T1 T2 T3 (N + 4) a2 s2 (by omega) (by simp only at g1; omega) (by simp only at g2; omega) (by omega) q0 (by omega)
     exact ⟨A', F', U', a', s', st0 _ (st _ (evp rfl e3)), f1, f2, f3, by omega⟩
    | false =>
     obtain ⟨A', F', U', a', s', e3, f1, f2, f3, f4⟩ := d_buddy_l d A F U (N + 4) a2 s2 (by omega) (by omega) (by omega) (by omega) q0 (by omega)
     exact ⟨A', F', U', a', s', st0 _ (st _ (evn (by decide) e3)), f1, f2, f3, by omega⟩
  ·obtain ⟨A', F', U', a', s', e3, f1, f2, f3, f4⟩ := take a s h0 (by omega)
   exact ⟨A', F', U', a', s', Ev.step (fun k => by rw [spec_l1Cur_buddy.l0, if_pos (by omega), if_neg hu]) e3, f1, f2, f3, f4⟩
theorem d_buddy : ∃ A F U a' s', Ev (fun k => spec_l1Cur_buddy.f k cs 0 0) (A, F, U, a', s') ∧ F.length ≤ 500 ∧ U.length ≤ 500 ∧ 0 ≤ a' ∧ a' ≤ 1000 := by
 obtain ⟨c, a1, s1, e1, _, _, p0, p1⟩ := cur_pick cs hb 0 0 0 9 (by omega) (by omega) (by omega) (by omega)
 obtain ⟨b, e2, l1, l2⟩ := newBuddy_f c
 obtain ⟨c3, a3, s3, e3, c0, c1, q0, q1⟩ := cur_pick cs hb a1 s1 2 14 p0 p1 (by omega) (by omega)
 obtain ⟨m, rfl⟩ := Int.eq_ofNat_of_zero_le c0
 obtain ⟨A', F', U', a', s', e4, f1, f2, f3, f4⟩ := d_buddy_l cs hb m b.1 b.2.1 b.2.2.1 4 a3 s3 (by omega) (by omega) (by omega) (by omega) q0 q1
 unfold spec_l1Cur_buddy.f
 exact ⟨A', F', U', a', s', ev_to_some e1 (ev_to_some e2 (ev_to_some e3 e4)), f1, f2, f3, by omega⟩
theorem d_take : ∃ A F U n, Ev (fun k => spec_DrawTakeBlock.f k cs) (A, F, U, n) ∧ F.length ≤ 500 ∧ U.length ≤ 500 := by
 obtain ⟨A, F, U, a, s, e, f1, f2, f3, f4⟩ := d_buddy cs hb
 obtain ⟨c, a1, s1, e1, _, _, p0, p1⟩ := cur_pick cs hb a s 1000 7 f3 f4 (by omega) (by omega)
 unfold spec_DrawTakeBlock.f
 exact ⟨A, F, U, _, Ev.bind e (ev_to_some e1 (Ev.now _)), f1, f2⟩
theorem d_give : ∃ A F U n, Ev (fun k => spec_DrawGiveBlock.f k cs) (A, F, U, n) ∧ F.length ≤ 500 ∧ U.length ≤ 500 := by
 obtain ⟨A, F, U, a, s, e, f1, f2, f3, f4⟩ := d_buddy cs hb
 obtain ⟨c, a1, s1, e1, _, _, p0, p1⟩ := cur_pick cs hb a s 1000 20 f3 f4 (by omega) (by omega)
 unfold spec_DrawGiveBlock.f
 by_cases hu : (U.length : Int) > 0
 ·obtain ⟨o, a2, s2, e2, q0, q1⟩ := cur_one cs hb a1 s1 1002 4 p0 p1 (by omega) (by omega)
  cases o with
  | true => exact ⟨A, F, U, c, Ev.bind e (ev_to_some e1 (evp hu (ev_to_some e2 (evp rfl (Ev.now _))))), f1, f2⟩
  | false =>
   obtain ⟨c3, a3, s3, e3, c0, c1, _, _⟩ := cur_pick cs hb a2 s2 1004 (U.length : Int) q0 (by omega) (by omega) (by omega)
   exact ⟨A, F, U, _, Ev.bind e (ev_to_some e1 (evp hu (ev_to_some e2 (evn (by simp) (ev_to_some e3 (evp c0 (evp (by simp only; omega) (Ev.now _)))))))), f1, f2⟩
 ·exact ⟨A, F, U, c, Ev.bind e (ev_to_some e1 (evn hu (Ev.now _))), f1, f2⟩
end

structure GoodQ (n : Nat) (F U : List S45) : Prop where
 n8 : n ≤ 8
 blk : ∀ y, y ∈ F ∨ y ∈ U → blkB y = true ∧ y.f0 + szB y ≤ 2 ^ n
 apart : List.Pairwise apartB (F ++ U)
 sum : sumB F + sumB U = 2 ^ n
 nob : ∀ x ∈ F, x.f1 < (n : Int) → ∀ y ∈ F, ¬ (y.f0 = bud x.f0 x.f1 ∧ y.f1 = x.f1)
theorem inB_iff {l : List S45} {a o : Int} : inB l a o = true ↔ ∃ y ∈ l, y.f0 = a ∧ y.f1 = o := by
 unfold inB
 rw [List.any_eq_true]
 constructor
 ·rintro ⟨y, hy, h⟩
  rw [Bool.and_eq_true, beq_iff_eq, beq_iff_eq] at h
  exact ⟨y, hy, h⟩
 ·rintro ⟨y, hy, h⟩
  exact ⟨y, hy, by rw [Bool.and_eq_true, beq_iff_eq, beq_iff_eq]; exact h⟩
theorem inB_no {l : List S45} {a o : Int} : inB l a o = false ↔ ∀ y ∈ l, ¬ (y.f0 = a ∧ y.f1 = o) := by
 rw [← Bool.not_eq_true, inB_iff]
 exact ⟨fun h y hy hc => h ⟨y, hy, hc⟩, fun h ⟨y, hy, hc⟩ => h y hy hc⟩
theorem blkB_low {y : S45} (h : blkB y = true) : 0 ≤ y.f0 := (blk_iff.mp h).2.1.1
theorem GoodQ.perm {n : Nat} {F U F' U' : List S45} (h : GoodQ n F U) (hF : List.Perm F' F) (hU : List.Perm U' U) : GoodQ n F' U' where
 n8 := h.n8
 blk := fun y hy => h.blk y (hy.imp hF.mem_iff.mp hU.mem_iff.mp)
 apart := ((hF.append hU).pairwise_iff (fun {a b} q => apartB_symm q)).mpr h.apart
 sum := by rw [sumB_perm hF, sumB_perm hU]; exact h.sum
 nob := fun x hx ho y hy => h.nob x (hF.mem_iff.mp hx) ho y (hF.mem_iff.mp hy)
theorem good_iff {ord : Int} {fr us : List S45} : goodB ord fr us = true ↔ ∃ n : Nat, ord = (n : Int) ∧ GoodQ n fr us ∧ List.Pairwise leB fr ∧ List.Pairwise leB us := by
 constructor
 ·intro h
  have h' := h
  unfold goodB at h'
  simp only [Bool.and_eq_true, decide_eq_true_eq] at h'
  obtain ⟨ha, ⟨⟨hc1, hc2⟩, hs⟩, hx⟩ := h'
  obtain ⟨n, rfl⟩ := Int.eq_ofNat_of_zero_le ha.1
  rw [Int.toNat_natCast] at hc1 hc2 hs
  rw [List.all_eq_true] at hx
  refine ⟨n, rfl, ⟨by omega, ?_, ?_, hs, ?_⟩, rise_le (ahead_rise (chainB_pair hc1)), rise_le (ahead_rise (chainB_pair hc2))⟩
  ·rintro y (hy | hy)
   ·have := chainB_low hc1 y hy; exact ⟨this.2.2, this.2.1⟩
   ·have := chainB_low hc2 y hy; exact ⟨this.2.2, this.2.1⟩
  ·rw [List.pairwise_append]
   refine ⟨(chainB_pair hc1).imp (fun {a b} q => .inl q), (chainB_pair hc2).imp (fun {a b} q => .inl q), fun x hxf y hy => ?_⟩
   have := hx x hxf
   simp only [Bool.and_eq_true] at this
   have h2 := List.all_eq_true.mp this.2 y hy
   unfold apB at h2
   show x.f0 + szB x ≤ y.f0 ∨ y.f0 + szB y ≤ x.f0
   exact of_decide_eq_true h2
  ·intro x hxf ho y hy hc
   have := hx x hxf
   simp only [Bool.and_eq_true, Bool.not_eq_true', Bool.and_eq_false_iff, decide_eq_false_iff_not] at this
   rcases this.1 with h1 | h1
   ·exact h1 ho
   ·exact (inB_no.mp h1) y hy hc
 ·rintro ⟨n, rfl, h, hf, hu⟩
  have hn8 := h.n8
  have pa := List.pairwise_append.mp h.apart
  have c1 : chainB (2 ^ n) 0 fr = true := pair_chainB (apart_ahead pa.1 hf) (fun y hy => ⟨blkB_low (h.blk y (.inl hy)).1, (h.blk y (.inl hy)).2, (h.blk y (.inl hy)).1⟩)
  have c2 : chainB (2 ^ n) 0 us = true := pair_chainB (apart_ahead pa.2.1 hu) (fun y hy => ⟨blkB_low (h.blk y (.inr hy)).1, (h.blk y (.inr hy)).2, (h.blk y (.inr hy)).1⟩)
  unfold goodB
  simp only [Bool.and_eq_true, decide_eq_true_eq, Int.toNat_natCast]
  refine ⟨by omega, ⟨⟨c1, c2⟩, h.sum⟩, ?_⟩
  rw [List.all_eq_true]
  intro x hx
  simp only [Bool.and_eq_true, Bool.not_eq_true', Bool.and_eq_false_iff, decide_eq_false_iff_not]
  refine ⟨?_, List.all_eq_true.mpr (fun y hy => ?_)⟩
  ·by_cases ho : x.f1 < (n : Int)
   ·exact .inr (inB_no.mpr (h.nob x hx ho))
   ·exact .inl ho
  ·unfold apB
   exact decide_eq_true (pa.2.2 x hx y hy)
def chkB (o p : Nat) : Bool := p % 2 ^ o != 0 || (bud (bud (p : Int) (o : Int)) (o : Int) == (p : Int) && (if p % 2 ^ (o + 1) = 0 then bud (p : Int) (o : Int) == ((p + 2 ^ o : Nat) : Int) else bud (p : Int) (o : Int) + ((2 ^ o : Nat) : Int) == (p : Int) && (decide (2 ^ o ≤ p) && (p - 2 ^ o) % 2 ^ (o + 1) == 0)))
theorem chkBs : ∀ o : Nat, o < 8 → ∀ p : Nat, p < 256 → chkB o p = true := by decide +kernel
theorem bud_facts {o p : Nat} (ho : o < 8) (hp : p < 256) (hm : p % 2 ^ o = 0) : bud (bud (p : Int) (o : Int)) (o : Int) = (p : Int) ∧ ((p % 2 ^ (o + 1) = 0 ∧ bud (p : Int) (o : Int) = (p : Int) + 2 ^ o) ∨ (∃ q : Nat, p = q + 2 ^ o ∧ q % 2 ^ (o + 1) = 0 ∧ bud (p : Int) (o : Int) = (q : Int))) := by
 have h := chkBs o ho p hp
 unfold chkB at h
 rw [hm] at h
 simp only [bne_self_eq_false, Bool.false_or, Bool.and_eq_true, beq_iff_eq] at h
 refine ⟨h.1, ?_⟩
 have h2 := h.2
 split at h2
 ·rename_i hc
  rw [beq_iff_eq] at h2
  exact .inl ⟨hc, by rw [h2, ← pow_cast]; omega⟩
 ·simp only [Bool.and_eq_true, beq_iff_eq, decide_eq_true_eq] at h2
  exact .inr ⟨p - 2 ^ o, by omega, h2.2.2, by have := h2.1; omega⟩
/-- a block, as two numbers -/
theorem blk_nat {n : Nat} (hn : n ≤ 8) {x : S45} (h : blkB x = true) (hf : x.f0 + szB x ≤ 2 ^ n) : ∃ o p : Nat, x = ⟨(p : Int), (o : Int)⟩ ∧ o ≤ n ∧ p % 2 ^ o = 0 ∧ p + 2 ^ o ≤ 2 ^ n ∧ szB x = 2 ^ o := by
 obtain ⟨⟨b1, b2⟩, b3, b4⟩ := blk_iff.mp h
 obtain ⟨o, ho⟩ := Int.eq_ofNat_of_zero_le b1
 obtain ⟨p, hp⟩ := Int.eq_ofNat_of_zero_le b3.1
 have hsz : szB x = 2 ^ o := by unfold szB; rw [ho]; rfl
 rw [hp, ho] at b4
 rw [hp, hsz] at hf
 have hal : p % 2 ^ o = 0 := by
  rw [Int.tmod_eq_emod_of_nonneg (by omega), show ((o : Int)).toNat = o from rfl, ← pow_cast] at b4
  exact_mod_cast b4
 have hfit : p + 2 ^ o ≤ 2 ^ n := by rw [← pow_cast, ← pow_cast] at hf; exact_mod_cast hf
 refine ⟨o, p, by rw [← hp, ← ho], order_le (by omega), hal, hfit, hsz⟩
theorem blk_mk {n o p : Nat} (hn : n ≤ 8) (ho : o ≤ n) (hal : p % 2 ^ o = 0) (hfit : p + 2 ^ o ≤ 2 ^ n) : blkB ⟨(p : Int), (o : Int)⟩ = true ∧ (p : Int) + szB ⟨(p : Int), (o : Int)⟩ ≤ 2 ^ n ∧ szB ⟨(p : Int), (o : Int)⟩ = 2 ^ o := by
 have hsz : szB ⟨(p : Int), (o : Int)⟩ = 2 ^ o := rfl
 have h3 : 2 ^ n ≤ 2 ^ 8 := Nat.pow_le_pow_right (by omega) hn
 have h4 := Nat.two_pow_pos o
 refine ⟨blk_iff.mpr ⟨by simp only; omega, by simp only; omega, ?_⟩, by rw [hsz, ← pow_cast, ← pow_cast]; exact_mod_cast hfit, hsz⟩
 show Int.tmod (p : Int) (2 ^ (o : Int).toNat) = 0
 rw [Int.tmod_eq_emod_of_nonneg (by omega), show ((o : Int)).toNat = o from rfl, ← pow_cast]
 exact_mod_cast hal
theorem apart_up {a b y : S45} {q s : Int} (h1 : apartB a y) (h2 : apartB b y) (ha : a.f0 = q ∧ szB a = s) (hb : b.f0 = q + s ∧ szB b = s) : ∀ c : S45, c.f0 = q → szB c = s + s → apartB c y := by
 intro c c1 c2
 have := szB_pos y
 unfold apartB at *
 omega
theorem apart_down {c y : S45} {q s : Int} (h : apartB c y) (hs : 0 ≤ s) (c1 : c.f0 = q) (c2 : szB c = s + s) : ∀ a : S45, (a.f0 = q ∨ a.f0 = q + s) → szB a = s → apartB a y := by
 intro a a1 a2
 unfold apartB at *
 omega
theorem pow_two (o : Nat) : (2 : Int) ^ (o + 1) = 2 ^ o + 2 ^ o := by rw [Int.pow_succ]; omega
/-- a block in use is halved: its upper half becomes free -/
theorem GoodQ.halve {n o p : Nat} {F U : List S45} (h : GoodQ n F (⟨(p : Int), ((o + 1 : Nat) : Int)⟩ :: U)) : GoodQ n (⟨(p : Int) + 2 ^ o, (o : Int)⟩ :: F) (⟨(p : Int), (o : Int)⟩ :: U) ∧ bud (p : Int) (o : Int) = (p : Int) + 2 ^ o := by
 have hn8 := h.n8
 obtain ⟨o', p', e, k1, k2, k3, k4⟩ := blk_nat hn8 (h.blk _ (.inr List.mem_cons_self)).1 (h.blk _ (.inr List.mem_cons_self)).2
 injection e with e1 e2
 obtain rfl : p = p' := by omega
 obtain rfl : o' = o + 1 := by omega
 have hpo := Nat.two_pow_pos o
 have hps : 2 ^ (o + 1) = 2 ^ o + 2 ^ o := by rw [Nat.pow_succ]; omega
 have hal : p % 2 ^ o = 0 := by
  obtain ⟨m, hm⟩ := Nat.dvd_of_mod_eq_zero k2
  rw [hm, Nat.pow_succ, Nat.mul_assoc]
  exact Nat.mul_mod_right _ _
 have hal2 : (p + 2 ^ o) % 2 ^ o = 0 := by rw [Nat.add_mod_right]; exact hal
 have hlt : p < 256 := by have : 2 ^ n ≤ 2 ^ 8 := Nat.pow_le_pow_right (by omega) hn8; omega
 obtain ⟨_, hb⟩ := bud_facts (show o < 8 by omega) hlt hal
 have hbud : bud (p : Int) (o : Int) = (p : Int) + 2 ^ o := by
  rcases hb with hb | ⟨q, q1, q2, q3⟩
  ·exact hb.2
  ·exfalso
   rw [q1] at k2
   have : (q + 2 ^ o) % 2 ^ (o + 1) = 2 ^ o := by
    obtain ⟨m, rfl⟩ := Nat.dvd_of_mod_eq_zero q2
    rw [Nat.mul_add_mod]
    exact Nat.mod_eq_of_lt (by omega)
   omega
 have ecast : ((p + 2 ^ o : Nat) : Int) = (p : Int) + 2 ^ o := by rw [← pow_cast]; omega
 have m1 := blk_mk hn8 (show o ≤ n by omega) hal (show p + 2 ^ o ≤ 2 ^ n by omega)
 have m2 := blk_mk hn8 (show o ≤ n by omega) hal2 (show p + 2 ^ o + 2 ^ o ≤ 2 ^ n by omega)
 rw [ecast] at m2
 have pa := List.pairwise_append.mp h.apart
 have pc := List.pairwise_cons.mp pa.2.1
 have hpz : (0 : Int) ≤ 2 ^ o := by rw [← pow_cast]; omega
 have hsc : szB ⟨(p : Int), ((o + 1 : Nat) : Int)⟩ = 2 ^ o + 2 ^ o := by rw [k4, pow_two]
 -- the halves are apart from all others
 have dn : ∀ y, apartB ⟨(p : Int), ((o + 1 : Nat) : Int)⟩ y → apartB ⟨(p : Int), (o : Int)⟩ y ∧ apartB ⟨(p : Int) + 2 ^ o, (o : Int)⟩ y := fun y hy =>
  ⟨apart_down hy hpz rfl hsc _ (.inl rfl) m1.2.2, apart_down hy hpz rfl hsc _ (.inr rfl) m2.2.2⟩
 have hFx : ∀ y ∈ F, apartB ⟨(p : Int), ((o + 1 : Nat) : Int)⟩ y := fun y hy => apartB_symm (pa.2.2 y hy _ List.mem_cons_self)
 have hnp : ∀ y ∈ F, ¬ (y.f0 = (p : Int) ∧ y.f1 = (o : Int)) := fun y hy hc => by
  have h1 := (dn y (hFx y hy)).1
  have h2 : y = ⟨(p : Int), (o : Int)⟩ := by cases y; simp only at hc; rw [hc.1, hc.2]
  subst h2
  have := szB_pos ⟨(p : Int), (o : Int)⟩
  unfold apartB at h1
  omega
 refine ⟨⟨hn8, ?_, ?_, ?_, ?_⟩, hbud⟩
 ·rintro y (hy | hy)
  ·rcases List.mem_cons.mp hy with rfl | hy
   ·exact ⟨m2.1, m2.2.1⟩
   ·exact h.blk y (.inl hy)
  ·rcases List.mem_cons.mp hy with rfl | hy
   ·exact ⟨m1.1, m1.2.1⟩
   ·exact h.blk y (.inr (List.mem_cons_of_mem _ hy))
 ·refine List.pairwise_append.mpr ⟨List.pairwise_cons.mpr ⟨fun y hy => (dn y (hFx y hy)).2, pa.1⟩, List.pairwise_cons.mpr ⟨fun y hy => (dn y (pc.1 y hy)).1, pc.2⟩, fun x hx y hy => ?_⟩
  rcases List.mem_cons.mp hx with rfl | hx <;> rcases List.mem_cons.mp hy with rfl | hy
  ·refine .inr ?_
   rw [m1.2.2]
   exact Int.le_refl _
  ·exact (dn y (pc.1 y hy)).2
  ·exact apartB_symm (dn x (hFx x hx)).1
  ·exact pa.2.2 x hx y (List.mem_cons_of_mem _ hy)
 ·have hs := h.sum
  simp only [sumB] at hs ⊢
  rw [m1.2.2, m2.2.2]
  rw [hsc] at hs
  omega
 ·intro x hx ho y hy hc
  rcases List.mem_cons.mp hx with rfl | hx
  ·have hbb : bud ((p : Int) + 2 ^ o) (o : Int) = (p : Int) := by rw [← hbud]; exact (bud_facts (show o < 8 by omega) hlt hal).1
   simp only at hc
   rw [hbb] at hc
   rcases List.mem_cons.mp hy with rfl | hy
   ·have := hc.1
    simp only at this
    have : (1 : Int) ≤ 2 ^ o := by rw [← pow_cast]; omega
    omega
   ·exact hnp y hy hc
  ·rcases List.mem_cons.mp hy with rfl | hy
   ·-- the buddy of x is the new block: then x is the lower half
    obtain ⟨ox, px, rfl, j1, j2, j3, j4⟩ := blk_nat hn8 (h.blk x (.inl hx)).1 (h.blk x (.inl hx)).2
    simp only at hc ho
    obtain rfl : o = ox := by omega
    have hpx : px < 256 := by have : 2 ^ n ≤ 2 ^ 8 := Nat.pow_le_pow_right (by omega) hn8; have := Nat.two_pow_pos o; omega
    have i1 := (bud_facts (show o < 8 by omega) hpx j2).1
    rw [← hc.1, ← hbud, (bud_facts (show o < 8 by omega) hlt hal).1] at i1
    exact hnp _ hx ⟨i1.symm, rfl⟩
   ·exact h.nob x hx ho y hy hc
/-- a free block goes into use -/
theorem GoodQ.use {n : Nat} {x : S45} {F U : List S45} (h : GoodQ n (x :: F) U) : GoodQ n F (x :: U) where
 n8 := h.n8
 blk := fun y hy => by
  rcases hy with hy | hy
  ·exact h.blk y (.inl (List.mem_cons_of_mem _ hy))
  ·rcases List.mem_cons.mp hy with rfl | hy
   ·exact h.blk _ (.inl List.mem_cons_self)
   ·exact h.blk y (.inr hy)
 apart := (List.perm_middle.pairwise_iff (fun {a b} q => apartB_symm q)).mpr h.apart
 sum := by have := h.sum; simp only [sumB] at this ⊢; omega
 nob := fun a ha ho y hy => h.nob a (List.mem_cons_of_mem _ ha) ho y (List.mem_cons_of_mem _ hy)
/-- a block in use becomes free where its buddy isn't -/
theorem GoodQ.free {n : Nat} {x : S45} {F U : List S45} (h : GoodQ n F (x :: U)) (hx : x.f1 < (n : Int) → ∀ y ∈ F, ¬ (y.f0 = bud x.f0 x.f1 ∧ y.f1 = x.f1)) : GoodQ n (x :: F) U where
 n8 := h.n8
 blk := fun y hy => by
  rcases hy with hy | hy
  ·rcases List.mem_cons.mp hy with rfl | hy
   ·exact h.blk _ (.inr List.mem_cons_self)
   ·exact h.blk y (.inl hy)
  ·exact h.blk y (.inr (List.mem_cons_of_mem _ hy))
 apart := (List.perm_middle.pairwise_iff (fun {a b} q => apartB_symm q)).mp h.apart
 sum := by have := h.sum; simp only [sumB] at this ⊢; omega
 nob := fun a ha ho y hy hc => by
  have hn8 := h.n8
  have bl : ∀ z, z = x ∨ z ∈ F → z.f1 < (n : Int) → ∃ o p : Nat, z = ⟨(p : Int), (o : Int)⟩ ∧ o < 8 ∧ p < 256 ∧ p % 2 ^ o = 0 := fun z hz hzn => by
   have hb : blkB z = true ∧ z.f0 + szB z ≤ 2 ^ n := by
    rcases hz with rfl | hz
    ·exact h.blk _ (.inr List.mem_cons_self)
    ·exact h.blk z (.inl hz)
   obtain ⟨o, p, rfl, j1, j2, j3, j4⟩ := blk_nat hn8 hb.1 hb.2
   simp only at hzn
   have : 2 ^ n ≤ 2 ^ 8 := Nat.pow_le_pow_right (by omega) hn8
   have := Nat.two_pow_pos o
   exact ⟨o, p, rfl, by omega, by omega, j2⟩
  obtain ⟨o, p, rfl, b1, b2, b3⟩ := bl a (List.mem_cons.mp ha) ho
  obtain ⟨i1, i2⟩ := bud_facts b1 b2 b3
  have i3 : bud (p : Int) (o : Int) ≠ (p : Int) := by
   have h1 : (1 : Int) ≤ 2 ^ o := by have := Nat.two_pow_pos o; rw [← pow_cast]; omega
   rcases i2 with i2 | ⟨q, q1, q2, q3⟩
   ·omega
   ·have := pow_cast o; omega
  simp only at hc ho
  rcases List.mem_cons.mp ha with e | ha'
  ·subst e
   rcases List.mem_cons.mp hy with rfl | hy
   ·exact i3 hc.1.symm
   ·exact hx ho y hy hc
  ·rcases List.mem_cons.mp hy with rfl | hy
   ·refine hx (by rw [hc.2]; exact ho) _ ha' ?_
    rw [hc.1, hc.2]
    exact ⟨i1.symm, rfl⟩
   ·exact h.nob _ ha' ho y hy hc
/-- a block in use and its free buddy become one block in use -/
theorem GoodQ.join {n o p : Nat} {F U : List S45} (hon : o < n) (h : GoodQ n (⟨bud (p : Int) (o : Int), (o : Int)⟩ :: F) (⟨(p : Int), (o : Int)⟩ :: U)) : ∃ q : Nat, mn (p : Int) (bud (p : Int) (o : Int)) = (q : Int) ∧ GoodQ n F (⟨(q : Int), ((o + 1 : Nat) : Int)⟩ :: U) := by
 have hn8 := h.n8
 obtain ⟨o', p', e, k1, k2, k3, k4⟩ := blk_nat hn8 (h.blk _ (.inr List.mem_cons_self)).1 (h.blk _ (.inr List.mem_cons_self)).2
 injection e with e1 e2
 obtain rfl : p = p' := by omega
 obtain rfl : o = o' := by omega
 have hlt : p < 256 := by have : 2 ^ n ≤ 2 ^ 8 := Nat.pow_le_pow_right (by omega) hn8; have := Nat.two_pow_pos o; omega
 obtain ⟨q, q1, _, q3, q4⟩ := join_bits (show o < 8 by omega) hlt k2
 refine ⟨q, q1, ?_⟩
 obtain ⟨i1, i2⟩ := bud_facts (show o < 8 by omega) hlt k2
 have hpz : (1 : Int) ≤ 2 ^ o := by have := Nat.two_pow_pos o; rw [← pow_cast]; omega
 have hfit := up_fit hon q3 (show q < 2 ^ n by have := Nat.two_pow_pos o; omega)
 have m := blk_mk hn8 hon q3 hfit
 have hsb : szB ⟨bud (p : Int) (o : Int), (o : Int)⟩ = 2 ^ o := rfl
 have hsp : szB ⟨(p : Int), (o : Int)⟩ = 2 ^ o := rfl
 have hsq : szB ⟨(q : Int), ((o + 1 : Nat) : Int)⟩ = 2 ^ o + 2 ^ o := by rw [m.2.2, pow_two]
 -- which is the lower half
 have hlo : ((p : Int) = (q : Int) ∧ bud (p : Int) (o : Int) = (q : Int) + 2 ^ o) ∨ (bud (p : Int) (o : Int) = (q : Int) ∧ (p : Int) = (q : Int) + 2 ^ o) := by
  unfold mn at q1
  rcases i2 with ⟨_, i2⟩ | ⟨r, r1, _, r3⟩
  ·left
   split at q1 <;> omega
  ·right
   have := pow_cast o
   split at q1 <;> omega
 have pa := List.pairwise_append.mp h.apart
 have pf := List.pairwise_cons.mp pa.1
 have pu := List.pairwise_cons.mp pa.2.1
 have up : ∀ y, apartB ⟨bud (p : Int) (o : Int), (o : Int)⟩ y → apartB ⟨(p : Int), (o : Int)⟩ y → apartB ⟨(q : Int), ((o + 1 : Nat) : Int)⟩ y := fun y h1 h2 => by
  rcases hlo with ⟨l1, l2⟩ | ⟨l1, l2⟩
  ·exact apart_up h2 h1 ⟨l1, hsp⟩ ⟨l2, hsb⟩ _ rfl hsq
  ·exact apart_up h1 h2 ⟨l1, hsb⟩ ⟨l2, hsp⟩ _ rfl hsq
 refine ⟨hn8, ?_, ?_, ?_, fun a ha ho y hy => h.nob a (List.mem_cons_of_mem _ ha) ho y (List.mem_cons_of_mem _ hy)⟩
 ·rintro y (hy | hy)
  ·exact h.blk y (.inl (List.mem_cons_of_mem _ hy))
  ·rcases List.mem_cons.mp hy with rfl | hy
   ·exact ⟨m.1, m.2.1⟩
   ·exact h.blk y (.inr (List.mem_cons_of_mem _ hy))
 ·refine List.pairwise_append.mpr ⟨pf.2, List.pairwise_cons.mpr ⟨fun y hy => up y (pa.2.2 _ List.mem_cons_self y (List.mem_cons_of_mem _ hy)) (pu.1 y hy), pu.2⟩, fun x hx y hy => ?_⟩
  rcases List.mem_cons.mp hy with rfl | hy
  ·exact apartB_symm (up x (pf.1 x hx) (apartB_symm (pa.2.2 x (List.mem_cons_of_mem _ hx) _ List.mem_cons_self)))
  ·exact pa.2.2 x (List.mem_cons_of_mem _ hx) y (List.mem_cons_of_mem _ hy)
 ·have hs := h.sum
  simp only [sumB] at hs ⊢
  rw [hsb, hsp] at hs
  rw [hsq]
  omega

theorem lack_perm {x : S45} : ∀ {l : List S45}, List.Pairwise apartB l → x ∈ l → List.Perm l (x :: lackB l x)
 | [], _, h => by cases h
 | y :: l, hp, h => by
  obtain ⟨h1, h2⟩ := List.pairwise_cons.mp hp
  by_cases he : y = x
  ·subst he
   have hf : lackB (y :: l) y = l := by
    unfold lackB
    rw [List.filter_cons_of_neg (by simp), List.filter_eq_self]
    intro z hz
    have ha := h1 z hz
    have hz1 : ¬ (z.f0 = y.f0) := fun e => by
     have := szB_pos y
     have := szB_pos z
     unfold apartB at ha
     omega
    simp [hz1]
   rw [hf]
  ·have hx : x ∈ l := by
    rcases List.mem_cons.mp h with e | h
    ·exact absurd e.symm he
    ·exact h
   have hf : lackB (y :: l) x = y :: lackB l x := by
    unfold lackB
    rw [List.filter_cons_of_pos]
    cases y; cases x
    simp only [Bool.not_eq_true', Bool.and_eq_false_iff, beq_eq_false_iff_ne]
    simp only [S45.mk.injEq] at he
    by_cases q : ‹Int› = ‹Int›
    ·simp at he
     omega
    ·omega
   rw [hf]
   exact ((lack_perm h2 hx).cons y).trans (List.Perm.swap x y _)
theorem putB_lack {x : S45} : ∀ {l : List S45}, List.Pairwise riseB l → x ∈ l → putB (lackB l x) x = l
 | [], _, h => by cases h
 | y :: l, hp, h => by
  obtain ⟨h1, h2⟩ := List.pairwise_cons.mp hp
  rcases List.mem_cons.mp h with rfl | hx
  ·have hf : lackB (x :: l) x = l := by
    have := lackB_at (x :: l) 0 (by simp) hp
    simpa using this
   rw [hf]
   cases l with
   | nil => rfl
   | cons z l =>
    have := h1 z List.mem_cons_self
    unfold riseB at this
    rw [putB_cons, if_neg (by omega)]
  ·have hy := h1 x hx
   unfold riseB at hy
   have hf : lackB (y :: l) x = y :: lackB l x := by
    unfold lackB
    rw [List.filter_cons_of_pos]
    have : ¬ (y.f0 = x.f0) := by omega
    simp [this]
   rw [hf, putB_cons, if_pos hy, putB_lack h2 hx]
theorem lack_put {b : S45} : ∀ {l : List S45}, (∀ y ∈ l, y.f0 ≠ b.f0) → lackB (putB l b) b = l
 | [], _ => by simp [putB_nil, lackB]
 | y :: l, h => by
  have hy := h y List.mem_cons_self
  rw [putB_cons]
  split
  ·have ih := lack_put (b := b) (l := l) (fun z hz => h z (List.mem_cons_of_mem _ hz))
   unfold lackB at ih ⊢
   rw [List.filter_cons_of_pos (by simp [hy]), ih]
  ·have hf := lackB_far (l := y :: l) (x := b) h
   unfold lackB at hf ⊢
   rw [List.filter_cons_of_neg (by simp), hf]
theorem splitQ {N p k : Nat} {U : List S45} : ∀ (o : Nat) (F : List S45), k ≤ o → GoodQ N F (⟨(p : Int), (o : Int)⟩ :: U) → GoodQ N (splitB (p : Int) (k : Int) o F) (⟨(p : Int), (k : Int)⟩ :: U)
 | 0, F, hk, h => by
  obtain rfl : k = 0 := by omega
  exact h
 | o + 1, F, hk, h => by
  rw [splitB]
  by_cases hc : ((o + 1 : Nat) : Int) > (k : Int)
  ·rw [if_pos hc]
   obtain ⟨h2, hb⟩ := h.halve
   rw [hb]
   exact splitQ o _ (by omega) (h2.perm (putB_perm _ _) (List.Perm.refl _))
  ·rw [if_neg hc]
   obtain rfl : k = o + 1 := by omega
   exact h
theorem joinQ {N : Nat} {U : List S45} : ∀ (d o p : Nat) (F : List S45), o + d = N → GoodQ N F (⟨(p : Int), (o : Int)⟩ :: U) → GoodQ N (joinB d o p F) U
 | 0, o, p, F, hd, h => by
  rw [joinB]
  exact (h.free (fun hx => by simp only at hx; omega)).perm (putB_perm _ _) (List.Perm.refl _)
 | d + 1, o, p, F, hd, h => by
  rw [joinB]
  split
  ·rename_i hin
   obtain ⟨y, hy, e1, e2⟩ := inB_iff.mp hin
   obtain rfl : y = ⟨bud (p : Int) (o : Int), (o : Int)⟩ := by cases y; simp only at e1 e2; rw [e1, e2]
   have hp := lack_perm (List.pairwise_append.mp h.apart).1 hy
   obtain ⟨q, hq, h2⟩ := (h.perm hp.symm (List.Perm.refl _)).join (by omega)
   rw [hq, Int.toNat_natCast]
   exact joinQ d (o + 1) q _ (by omega) h2
  ·rename_i hin
   exact (h.free (fun _ y hy hc => hin (inB_iff.mpr ⟨y, hy, hc⟩))).perm (putB_perm _ _) (List.Perm.refl _)
theorem joinB_le : ∀ (d o p : Nat) (F : List S45), List.Pairwise leB F → List.Pairwise leB (joinB d o p F)
 | 0, _, _, _, h => by rw [joinB]; exact putB_le h
 | d + 1, o, p, F, h => by
  rw [joinB]
  split
  ·exact joinB_le d _ _ _ (h.sublist (lackB_sub _ _))
  ·exact putB_le h
theorem GoodQ.riseF {n : Nat} {F U : List S45} (h : GoodQ n F U) (hs : List.Pairwise leB F) : List.Pairwise riseB F := ahead_rise (apart_ahead (List.pairwise_append.mp h.apart).1 hs)
theorem join_split {N k p : Nat} (hN : N ≤ 8) : ∀ (o : Nat) (F : List S45), k ≤ o → o ≤ N → p % 2 ^ o = 0 → p + 2 ^ o ≤ 2 ^ N → (∀ y ∈ F, y.f0 < (p : Int) ∨ (p : Int) + 2 ^ o ≤ y.f0) → joinB (N - k) k p (splitB (p : Int) (k : Int) o F) = joinB (N - o) o p F
 | 0, F, hk, ho, _, _, _ => by
  obtain rfl : k = 0 := by omega
  rfl
 | o + 1, F, hk, ho, hal, hfit, hF => by
  rw [splitB]
  by_cases hc : ((o + 1 : Nat) : Int) > (k : Int)
  ·rw [if_pos hc]
   have hpo := Nat.two_pow_pos o
   have hps : 2 ^ (o + 1) = 2 ^ o + 2 ^ o := by rw [Nat.pow_succ]; omega
   have hal' : p % 2 ^ o = 0 := by
    obtain ⟨m, hm⟩ := Nat.dvd_of_mod_eq_zero hal
    rw [hm, Nat.pow_succ, Nat.mul_assoc]
    exact Nat.mul_mod_right _ _
   have hlt : p < 256 := by have : 2 ^ N ≤ 2 ^ 8 := Nat.pow_le_pow_right (by omega) hN; omega
   have hbud : bud (p : Int) (o : Int) = (p : Int) + 2 ^ o := by
    rcases (bud_facts (show o < 8 by omega) hlt hal').2 with hb | ⟨q, q1, q2, q3⟩
    ·exact hb.2
    ·exfalso
     rw [q1] at hal
     have : (q + 2 ^ o) % 2 ^ (o + 1) = 2 ^ o := by
      obtain ⟨m, rfl⟩ := Nat.dvd_of_mod_eq_zero q2
      rw [Nat.mul_add_mod]
      exact Nat.mod_eq_of_lt (by omega)
     omega
   have hpz : (1 : Int) ≤ 2 ^ o := by rw [← pow_cast]; omega
   have hpt := pow_two o
   rw [join_split hN o _ (by omega) (by omega) hal' (by omega) (fun y hy => by
    rcases putB_mem.mp hy with rfl | hy
    ·right; rw [hbud]; exact Int.le_refl _
    ·have := hF y hy; omega)]
   rw [show N - o = (N - (o + 1)) + 1 by omega, joinB]
   rw [if_pos (inB_iff.mpr ⟨_, putB_mem.mpr (.inl rfl), rfl, rfl⟩)]
   have hmn : mn (p : Int) (bud (p : Int) (o : Int)) = (p : Int) := by rw [hbud]; unfold mn; split <;> omega
   rw [hmn, Int.toNat_natCast, lack_put (fun y hy => by have := hF y hy; simp only; rw [hbud]; omega)]
  ·rw [if_neg hc]
   obtain rfl : k = o + 1 := by omega
   rfl
theorem take_form {a n : Int} {fr us : List S45} (h : (takeB a n fr us).2.2.2.2 = true) : ∃ N o k p : Nat, a = (N : Int) ∧ n = (k : Int) ∧ k ≤ o ∧ o ≤ N ∧ p % 2 ^ o = 0 ∧ p + 2 ^ o ≤ 2 ^ N ∧ GoodQ N fr us ∧ List.Pairwise leB fr ∧ List.Pairwise leB us ∧ (⟨(p : Int), (o : Int)⟩ : S45) ∈ fr ∧ takeB a n fr us = (a, splitB (p : Int) (k : Int) o (lackB fr ⟨(p : Int), (o : Int)⟩), putB us ⟨(p : Int), (k : Int)⟩, (p : Int), true) := by
 unfold takeB at h ⊢
 by_cases hg : goodB a fr us = true ∧ n ≥ 0 ∧ n ≤ a
 ·rw [if_pos hg] at h ⊢
  obtain ⟨N, rfl, hQ, hs1, hs2⟩ := good_iff.mp hg.1
  have hbi := bestB_in n fr fr.length 0 (-1) (by omega) (.inl rfl)
  rw [List.drop_zero, show ((0 : Nat) : Int) = 0 from rfl] at hbi
  generalize bestB n fr (-1) fr 0 = b at h hbi ⊢
  by_cases hb : b < 0
  ·rw [if_pos hb] at h; cases h
  ·rw [if_neg hb] at h ⊢
   rcases hbi with h' | ⟨b0, b1, b2⟩
   ·omega
   ·obtain ⟨b, rfl⟩ := Int.eq_ofNat_of_zero_le b0
    have hbl : b < fr.length := by omega
    simp only [Int.toNat_natCast, getb fr b hbl] at b2 ⊢
    have hm := List.getElem_mem hbl
    obtain ⟨o, p, e, k1, k2, k3, k4⟩ := blk_nat hQ.n8 (hQ.blk _ (.inl hm)).1 (hQ.blk _ (.inl hm)).2
    rw [e] at hm b2 ⊢
    obtain ⟨k, rfl⟩ := Int.eq_ofNat_of_zero_le hg.2.1
    refine ⟨N, o, k, p, rfl, rfl, by simp only at b2; omega, k1, k2, k3, hQ, hs1, hs2, hm, ?_⟩
    simp only [Int.toNat_natCast]
 ·rw [if_neg hg] at h; cases h
theorem give_form {a t : Int} {fr us : List S45} (h : (giveB a t fr us).2.2.2 = true) : ∃ N o p : Nat, a = (N : Int) ∧ o ≤ N ∧ GoodQ N fr us ∧ List.Pairwise leB fr ∧ List.Pairwise leB us ∧ (⟨(p : Int), (o : Int)⟩ : S45) ∈ us ∧ giveB a t fr us = (a, joinB (N - o) o p fr, lackB us ⟨(p : Int), (o : Int)⟩, true) := by
 unfold giveB at h ⊢
 by_cases hg : goodB a fr us = true
 ·rw [if_pos hg] at h ⊢
  obtain ⟨N, rfl, hQ, hs1, hs2⟩ := good_iff.mp hg
  have hcs := firstB_cases (fun y => y.f0 == t) us 0
  rw [show ((0 : Nat) : Int) = 0 from rfl] at hcs
  generalize firstB (fun y => y.f0 == t) us 0 = b at h hcs ⊢
  by_cases hb : b < 0
  ·rw [if_pos hb] at h; cases h
  ·rw [if_neg hb] at h ⊢
   rcases hcs with rfl | ⟨k, hk, rfl⟩
   ·omega
   ·rw [Nat.zero_add]
    simp only [Int.toNat_natCast, getb us k hk]
    have hm := List.getElem_mem hk
    obtain ⟨o, p, e, k1, k2, k3, k4⟩ := blk_nat hQ.n8 (hQ.blk _ (.inr hm)).1 (hQ.blk _ (.inr hm)).2
    rw [e] at hm ⊢
    exact ⟨N, o, p, rfl, k1, hQ, hs1, hs2, hm, by simp only [Int.toNat_natCast]⟩
 ·rw [if_neg hg] at h; cases h
theorem give_good {a t : Int} {fr us : List S45} (h : (giveB a t fr us).2.2.2 = true) : goodB (giveB a t fr us).1 (giveB a t fr us).2.1 (giveB a t fr us).2.2.1 = true := by
 obtain ⟨N, o, p, rfl, ho, hQ, hs1, hs2, hm, e⟩ := give_form h
 rw [e]
 have hp := lack_perm (List.pairwise_append.mp hQ.apart).2.1 hm
 exact good_iff.mpr ⟨N, rfl, joinQ (N - o) o p fr (by omega) (hQ.perm (List.Perm.refl _) hp.symm), joinB_le _ _ _ _ hs1, hs2.sublist (lackB_sub _ _)⟩
theorem take_all {a n : Int} {fr us : List S45} (h : (takeB a n fr us).2.2.2.2 = true) : ∃ N k p : Nat, a = (N : Int) ∧ n = (k : Int) ∧ k ≤ 8 ∧ N ≤ 8 ∧ p % 2 ^ k = 0 ∧ ∃ F' : List S45, takeB a n fr us = (a, F', putB us ⟨(p : Int), (k : Int)⟩, (p : Int), true) ∧ goodB a fr us = true ∧ goodB a F' (putB us ⟨(p : Int), (k : Int)⟩) = true ∧ sumB fr = sumB F' + 2 ^ k ∧ giveB a (p : Int) F' (putB us ⟨(p : Int), (k : Int)⟩) = (a, fr, us, true) ∧ (∀ y ∈ F', y.f1 ≤ (N : Int)) ∧ (∀ y ∈ fr, blkB y = true) ∧ (∀ y ∈ F', blkB y = true) := by
 obtain ⟨N, o, k, p, rfl, rfl, hko, hoN, hal, hfit, hQ, hs1, hs2, hm, e⟩ := take_form h
 have hN := hQ.n8
 have hap := (List.pairwise_append.mp hQ.apart).1
 have hr1 := hQ.riseF hs1
 have hQ2 := splitQ (k := k) o _ hko (hQ.perm (lack_perm hap hm).symm (List.Perm.refl _)).use
 have hQ3 := hQ2.perm (List.Perm.refl _) (putB_perm us ⟨(p : Int), (k : Int)⟩)
 have hs3 : List.Pairwise leB (splitB (p : Int) (k : Int) o (lackB fr ⟨(p : Int), (o : Int)⟩)) := splitB_le _ _ _ _ (hs1.sublist (lackB_sub _ _))
 have hs4 := putB_le (x := ⟨(p : Int), (k : Int)⟩) hs2
 have hg : goodB (N : Int) (splitB (p : Int) (k : Int) o (lackB fr ⟨(p : Int), (o : Int)⟩)) (putB us ⟨(p : Int), (k : Int)⟩) = true := good_iff.mpr ⟨N, rfl, hQ3, hs3, hs4⟩
 have hnu : ∀ y ∈ us, y.f0 ≠ (p : Int) := fun y hy he => by
  have h1 := (List.pairwise_append.mp hQ.apart).2.2 _ hm y hy
  have := szB_pos y
  have := szB_pos ⟨(p : Int), (o : Int)⟩
  unfold apartB at h1
  simp only at h1
  omega
 have hkal : p % 2 ^ k = 0 := by
  obtain ⟨e', rfl⟩ : ∃ e', o = k + e' := ⟨o - k, by omega⟩
  obtain ⟨m, hm'⟩ := Nat.dvd_of_mod_eq_zero hal
  rw [hm', Nat.pow_add, Nat.mul_assoc]
  exact Nat.mul_mod_right _ _
 refine ⟨N, k, p, rfl, rfl, by omega, hN, hkal, _, e, good_iff.mpr ⟨N, rfl, hQ, hs1, hs2⟩, hg, ?_, ?_, ?_, fun y hy => (hQ.blk y (.inl hy)).1, fun y hy => (hQ3.blk y (.inl hy)).1⟩
 ·have s1 := hQ.sum
  have s2 := hQ2.sum
  simp only [sumB] at s2
  rw [show szB ⟨(p : Int), (k : Int)⟩ = 2 ^ k from rfl] at s2
  omega
 ·unfold giveB
  rw [if_pos hg]
  have hne : firstB (fun y => y.f0 == (p : Int)) (putB us ⟨(p : Int), (k : Int)⟩) 0 ≠ -1 := fun hn => by
   have := firstB_none _ _ 0 (Int.le_refl 0) hn ⟨(p : Int), (k : Int)⟩ (putB_mem.mpr (.inl rfl))
   simp at this
  obtain ⟨i, hi, ei, hp, _⟩ := firstB_some _ _ 0 (Int.le_refl 0) hne
  rw [Int.zero_add] at ei
  rw [ei, if_neg (nn i)]
  rw [beq_iff_eq] at hp
  have hx : (putB us ⟨(p : Int), (k : Int)⟩)[i] = ⟨(p : Int), (k : Int)⟩ := by
   rcases putB_mem.mp (List.getElem_mem hi) with q | q
   ·exact q
   ·exact absurd hp (hnu _ q)
  simp only [Int.toNat_natCast, getb _ i hi, hx]
  rw [lack_put hnu, join_split hN o _ hko hoN hal hfit (fun y hy => ?_)]
  ·have hfin : joinB (N - o) o p (lackB fr ⟨(p : Int), (o : Int)⟩) = fr := by
    have hpl := putB_lack hr1 hm
    rcases Nat.eq_or_lt_of_le hoN with rfl | hlt
    ·rw [Nat.sub_self, joinB, hpl]
    ·rw [show N - o = (N - (o + 1)) + 1 by omega, joinB, if_neg, hpl]
     intro hin
     obtain ⟨y, hy, hc⟩ := inB_iff.mp hin
     exact hQ.nob _ hm (by simp only; omega) y ((lackB_sub _ _).subset hy) hc
   rw [hfin]
  ·have hy' := (lack_perm hap hm).symm.mem_iff.mp (List.mem_cons_of_mem _ hy)
   have h1 : apartB ⟨(p : Int), (o : Int)⟩ y := (List.pairwise_cons.mp ((lack_perm hap hm).pairwise_iff (fun {a b} q => apartB_symm q) |>.mp hap)).1 y hy
   have := szB_pos y
   unfold apartB at h1
   rw [show szB ⟨(p : Int), (o : Int)⟩ = 2 ^ o from rfl] at h1
   simp only at h1
   omega
 ·intro y hy
  obtain ⟨oy, py, rfl, j1, _⟩ := blk_nat hN (hQ3.blk y (.inl hy)).1 (hQ3.blk y (.inl hy)).2
  simp only
  omega

def budOf (a o : Int) : Int × Int × Bool := if blk a o = true ∧ o ≠ 8 ∧ blk (bud a o) o = true then (bud a o, o, true) else (0, 0, false)
theorem spec_budOf (a o : Int) : spec_BuddyOf.f a o = some (budOf a o) := by
 unfold spec_BuddyOf.f budOf
 rw [spec_block_tells, Option.bind_some]
 by_cases h1 : blk a o = true
 ·rw [if_pos h1]
  by_cases h2 : o = 8
  ·rw [if_pos h2, if_neg (fun h => h.2.1 h2)]
  ·obtain ⟨o0, o8⟩ := blk_order h1
   rw [if_neg h2, spec_buddy_tells a o o0 o8]
   simp only [Option.bind_some]
   rw [spec_block_tells, Option.bind_some]
   by_cases h3 : blk (bud a o) o = true
   ·rw [if_pos h3, if_pos ⟨h1, h2, h3⟩]
   ·rw [if_neg h3, if_neg (fun h => h3 h.2.2)]
 ·rw [if_neg h1, if_neg (fun h => h1 h.1)]
theorem impl_budOf (a o : Int) : impl_BuddyOf.f a o = some (budOf a o) := by
 unfold impl_BuddyOf.f budOf
 rw [impl_block_tells, Option.bind_some]
 by_cases h1 : blk a o = true
 ·rw [if_pos h1]
  by_cases h2 : o = 8
  ·rw [if_pos h2, if_neg (fun h => h.2.1 h2)]
  ·obtain ⟨o0, o8⟩ := blk_order h1
   rw [if_neg h2, impl_buddy_tells a o o0 o8]
   simp only [Option.bind_some]
   rw [impl_block_tells, Option.bind_some]
   by_cases h3 : blk (bud a o) o = true
   ·rw [if_pos h3, if_pos ⟨h1, h2, h3⟩]
   ·rw [if_neg h3, if_neg (fun h => h3 h.2.2)]
 ·rw [if_neg h1, if_neg (fun h => h1 h.1)]
def chkO (o a : Nat) : Bool := a % 2 ^ o != 0 || (bud (bud (a : Int) (o : Int)) (o : Int) == (a : Int) && (!(bud (a : Int) (o : Int) == (a : Int)) && Go.bits .xor .i64 (bud (a : Int) (o : Int)) (a : Int) == shl .i64 1 (o : Int)))
theorem chkOs : ∀ o : Nat, o < 8 → ∀ a : Nat, a < 1026 → chkO o a = true := by decide +kernel
def chkA (k c : Nat) : Bool := shl .i64 (c : Int) (k : Int) == ((c * 2 ^ k : Nat) : Int)
theorem chkAs : ∀ k : Nat, k < 8 → ∀ c : Nat, c < 9 → chkA k c = true := by decide +kernel
theorem budOf_true {a o : Int} (h0 : 0 ≤ o → o ≤ 7 → 0 ≤ a ∧ a ≤ 1025) (h : (budOf a o).2.2 = true) : budOf a o = (bud a o, o, true) ∧ 0 ≤ o ∧ o ≤ 7 ∧ budOf (bud a o) o = (a, o, true) ∧ (bud a o == a) = false ∧ Go.bits .xor .i64 (bud a o) a = shl .i64 1 o := by
 unfold budOf at h ⊢
 by_cases hc : blk a o = true ∧ o ≠ 8 ∧ blk (bud a o) o = true
 ·rw [if_pos hc]
  obtain ⟨o0, o8⟩ := blk_order hc.1
  have o7 : o ≤ 7 := by have := hc.2.1; omega
  obtain ⟨a0, a1⟩ := h0 o0 o7
  obtain ⟨o, rfl⟩ := Int.eq_ofNat_of_zero_le o0
  obtain ⟨a, rfl⟩ := Int.eq_ofNat_of_zero_le a0
  have hal : a % 2 ^ o = 0 := by
   have b4 := (blk_iff (x := ⟨(a : Int), (o : Int)⟩)).mp hc.1
   have b5 := b4.2.2
   simp only at b5
   rw [Int.tmod_eq_emod_of_nonneg (by omega), show ((o : Int)).toNat = o from rfl, ← pow_cast] at b5
   exact_mod_cast b5
  have hk := chkOs o (by omega) a (by omega)
  unfold chkO at hk
  rw [hal] at hk
  simp only [bne_self_eq_false, Bool.false_or, Bool.and_eq_true, beq_iff_eq, Bool.not_eq_true'] at hk
  obtain ⟨k1, k2, k3⟩ := hk
  exact ⟨rfl, o0, o7, by rw [k1, if_pos ⟨hc.2.2, hc.2.1, hc.1⟩], k2, k3⟩
 ·rw [if_neg hc] at h; cases h
section
variable (cs : List Int) (hb : ∀ x ∈ cs, (Lit.int .u8 x).wf = true)
include hb
theorem d_buddyof : ∃ a o, spec_DrawBuddyOf.f cs = some (a, o) ∧ (0 ≤ o → o ≤ 7 → 0 ≤ a ∧ a ≤ 1025) := by
 obtain ⟨c, a1, s1, e1, c0, c1, p0, p1⟩ := cur_pick cs hb 0 0 0 11 (by omega) (by omega) (by omega) (by omega)
 have hw : wrap64 (c - 1) = c - 1 := by unfold wrap64; omega
 unfold spec_DrawBuddyOf.f
 rw [e1]
 simp only [Option.bind_some]
 rw [hw]
 by_cases hc : c - 1 ≥ 0
 ·obtain ⟨k, hk⟩ := Int.eq_ofNat_of_zero_le hc
  obtain ⟨c2, a2, s2, e2, d0, d1, q0, q1⟩ := cur_pick cs hb a1 s1 2 9 p0 p1 (by omega) (by omega)
  obtain ⟨m, rfl⟩ := Int.eq_ofNat_of_zero_le d0
  obtain ⟨b, a3, s3, e3, _, _⟩ := cur_one cs hb a2 s2 4 12 q0 q1 (by omega) (by omega)
  rw [if_pos hc, e2]
  simp only [Option.bind_some]
  rw [hk, u64_small _ (by omega) (by omega), if_pos (by omega), e3]
  simp only [Option.bind_some]
  have hb : (k : Int) ≤ 7 → 0 ≤ shl .i64 (m : Int) (k : Int) ∧ shl .i64 (m : Int) (k : Int) ≤ 1024 := fun h7 => by
   have h := chkAs k (by omega) m (by omega)
   unfold chkA at h
   rw [beq_iff_eq] at h
   have h2 : m * 2 ^ k ≤ 8 * 2 ^ 7 := Nat.mul_le_mul (by omega) (Nat.pow_le_pow_right (by omega) (by omega))
   rw [h]
   omega
  cases b with
  | true => exact ⟨_, _, if_pos rfl, fun _ h7 => by have := hb h7; unfold wrap64; omega⟩
  | false => exact ⟨_, _, if_neg (by decide), fun _ h7 => by have := hb h7; omega⟩
 ·obtain ⟨b, a3, s3, e3, _, _⟩ := cur_one cs hb a1 s1 2 12 p0 p1 (by omega) (by omega)
  rw [if_neg hc, e3]
  simp only [Option.bind_some]
  cases b with
  | true => exact ⟨_, _, if_pos rfl, fun h _ => by omega⟩
  | false => exact ⟨_, _, if_neg (by decide), fun h _ => by omega⟩
end
theorem same_blocks_l (xs : List S45) (hl : xs.length < 2 ^ 40) (d : Nat) : ∀ (i : Nat), i + d = xs.length → Ev (fun k => laws_sameBlocks.l0 k xs xs (xs.length : Int) (i : Int)) true := by
 induction d with
 | zero => intro i hi; exact Ev.step (fun k => by simp only [laws_sameBlocks.l0]; rw [if_neg (by omega)]) (Ev.now _)
 | succ d ih =>
  intro i hi
  exact Ev.step (fun k => by
   simp only [laws_sameBlocks.l0]
   rw [if_pos (by omega), if_pos (by omega), if_pos (by omega), if_pos (by omega), if_neg (by simp), inc i (by omega)]) (ih (i + 1) (by omega))
theorem same_blocks (xs : List S45) (hl : xs.length < 2 ^ 40) : Ev (fun k => laws_sameBlocks.f k xs xs) true := by
 unfold laws_sameBlocks.f
 exact evp rfl (same_blocks_l xs hl xs.length 0 (by omega))
theorem same_buddies (a : Int) (xs ys : List S45) (hx : xs.length < 2 ^ 40) (hy : ys.length < 2 ^ 40) : Ev (fun k => laws_sameBuddies.f k a xs ys a xs ys) true := by
 unfold laws_sameBuddies.f
 exact evp rfl (Ev.bind (same_blocks xs hx) (evp rfl (Ev.bind (same_blocks ys hy) (Ev.now _))))
theorem grB_le {N : Int} : ∀ (l : List S45) (g : Int), g ≤ N → (∀ y ∈ l, y.f1 ≤ N) → grB g l ≤ N
 | [], g, h, _ => h
 | y :: l, g, h, hl => by
  rw [grB]
  refine grB_le l _ ?_ (fun z hz => hl z (List.mem_cons_of_mem _ hz))
  split
  ·exact hl y List.mem_cons_self
  ·exact h
theorem bytes_good {a : Int} {fr us : List S45} (hg : goodB a fr us = true) (hf : fr.length < 2 ^ 38) (hu : us.length < 2 ^ 38) (hb : ∀ x ∈ fr, blkB x = true) : Ev (fun k => impl_BytesFree.f k a fr us) (sumB fr, grB 0 fr, true) := by
 unfold impl_BytesFree.f
 have h2 := impl_goodB a fr us hf hu
 rw [hg] at h2
 have h := impl_bytes_l fr hf hb fr.length 0 0 0 (by omega) (by omega) (by omega)
 rw [List.drop_zero, Int.zero_add] at h
 exact Ev.bind h2 (evp rfl h)

section
variable (l1 : List Int) (hb : ∀ x ∈ l1, (Lit.int .u8 x).wf = true)
include hb
theorem J3 : Ev (fun k => laws_FnBuddies.j3 k l1 false) true := by
 obtain ⟨a, o, e, hao⟩ := d_buddyof l1 hb
 refine Ev.step (fun k => by rw [laws_FnBuddies.j3, if_neg (by decide)]) (ev_to_some e (ev_to_some (impl_budOf a o) (ev_to_some (spec_budOf a o) (evn (by show ¬ (((budOf a o).2.2 != (budOf a o).2.2) = true); rw [bne_self_eq_false]; decide) ?_))))
 cases ht : (budOf a o).2.2 with
 | false =>
  have h : budOf a o = (0, 0, false) := by
   unfold budOf at ht ⊢
   split
   ·rename_i hc; rw [if_pos hc] at ht; cases ht
   ·rfl
  rw [h]
  exact evn (by decide) (Ev.now _)
 | true =>
  obtain ⟨h1, o0, o7, h2, h3, h4⟩ := budOf_true hao ht
  rw [h1]
  refine evp rfl (ev_to_some (impl_budOf (bud a o) o) ?_)
  rw [h2]
  refine evp rfl (evp (by simp) (evp (by simp only [h3]; rfl) (evp ?_ ?_)))
  ·simp only
   rw [u64_small _ o0 (by omega)]
   exact o0
  ·simp only
   rw [u64_small _ o0 (by omega), h4, beq_self_eq_true]
   exact Ev.now _
theorem J1 : Ev (fun k => laws_FnBuddies.j1 k l1) true := by
 obtain ⟨A, F, U, t, e, f1, f2⟩ := d_give l1 hb
 obtain ⟨t1, t2⟩ := giveB_tells A t F U (by omega) (by omega)
 obtain ⟨g1, g2⟩ := giveB_length A t F U (by omega) (by omega)
 have gg := give_good (a := A) (t := t) (fr := F) (us := U)
 obtain ⟨w1, w2⟩ := giveB_grow A t F U
 generalize giveB A t F U = T at t1 t2 g1 g2 gg w1 w2
 obtain ⟨T1, T2, T3, T4⟩ := T
 simp only at gg g1 g2 w1 w2
 refine Ev.step (fun k => by rw [laws_FnBuddies.j1]) (Ev.bind e (Ev.bind t2 (Ev.bind t1 (evn (by show ¬ ((T4 != T4) = true); rw [bne_self_eq_false]; decide) (Ev.bind (same_buddies T1 T2 T3 g1 g2) ?_)))))
 show Ev (fun k => laws_FnBuddies.j2 k l1 T4 (!true) T1 T2 T3) true
 cases T4 with
 | true =>
  have h := impl_goodB T1 T2 T3 (by omega) (by omega)
  rw [gg rfl] at h
  exact Ev.step (fun k => by rw [laws_FnBuddies.j2, if_neg (by decide), if_pos rfl]) (Ev.bind h (J3 l1 hb))
 | false => exact Ev.step (fun k => by rw [laws_FnBuddies.j2, if_neg (by decide), if_neg (by decide)]) (J3 l1 hb)
end
theorem FnBuddies : laws_FnBuddies.Pure := by
 intro l0 l1 m1 m1' hb1 m2 m2' hb2
 refine Ev.rounds ?_
 unfold laws_FnBuddies.f
 by_cases hw : wrap64 ((l0.length : Int) + (l1.length : Int)) > 1048576
 ·exact evp hw (Ev.now _)
 ·refine evn hw ?_
  obtain ⟨A, F, U, n, e, f1, f2⟩ := d_take l0 hb1
  obtain ⟨t1, t2⟩ := takeB_tells A n F U (by omega) (by omega)
  obtain ⟨g1, g2⟩ := takeB_length A n F U (by omega) (by omega)
  obtain ⟨w1, w2⟩ := takeB_grow A n F U
  have ta := take_all (a := A) (n := n) (fr := F) (us := U)
  generalize takeB A n F U = T at t1 t2 g1 g2 w1 w2 ta
  obtain ⟨T1, T2, T3, T4, T5⟩ := T
  simp only at g1 g2 w1 w2 ta
  refine Ev.bind e (Ev.bind t2 (Ev.bind t1 (evn (by show ¬ ((T5 != T5) = true); rw [bne_self_eq_false]; decide) (evp rfl (Ev.bind (same_buddies T1 T2 T3 g1 g2) (evp rfl (Ev.bind (impl_goodB A F U (by omega) (by omega)) (Ev.bind (spec_goodB A F U (by omega) (by omega)) ?_))))))))
  show Ev (fun k => laws_FnBuddies.j0 k l1 n T4 T5 (goodB A F U != goodB A F U) A F U T1 T2 T3) true
  rw [bne_self_eq_false]
  cases T5 with
  | false => exact Ev.step (fun k => by rw [laws_FnBuddies.j0, if_neg (by decide), if_neg (by decide)]) (J1 l1 hb2)
  | true =>
   obtain ⟨N, k, p, rfl, rfl, hk8, hN8, hal, F', eT, hg1, hg2, hsum, hgive, hord, hbk1, hbk2⟩ := ta rfl
   simp only [Prod.mk.injEq] at eT
   obtain ⟨rfl, rfl, rfl, rfl, _⟩ := eT
   have b1 := bytes_good hg1 (by omega) (by omega) hbk1
   have b2 := bytes_good hg2 (by omega) (by omega) hbk2
   have gv := (giveB_tells (N : Int) (p : Int) T2 (putB U ⟨(p : Int), (k : Int)⟩) (by omega) (by omega)).2
   rw [hgive] at gv
   have hsh : shl .i64 1 (IntKind.u64.wrap (k : Int)) = 2 ^ k := by rw [u64_small _ (by omega) (by omega), shl_sz k hk8, pow_cast]
   have hp2 : (1 : Int) ≤ 2 ^ k ∧ (2 : Int) ^ k ≤ 256 := ⟨by have := Nat.two_pow_pos k; rw [← pow_cast]; omega, pow_le8 k hk8⟩
   have hI := impl_goodB (N : Int) T2 (putB U ⟨(p : Int), (k : Int)⟩) (by omega) (by omega)
   rw [hg2] at hI
   have hsm : 0 ≤ sumB T2 ∧ sumB T2 ≤ 256 := by
    obtain ⟨N', hN', hQ, _, _⟩ := good_iff.mp hg2
    have h1 := sumB_nonneg T2
    have h2 := sumB_nonneg (putB U ⟨(p : Int), (k : Int)⟩)
    have h3 := hQ.sum
    have h4 := pow_le8 N' hQ.n8
    omega
   refine Ev.step (fun q => by rw [laws_FnBuddies.j0, if_neg (by decide), if_pos rfl]) (Ev.bind b1 (Ev.bind b2 (Ev.bind gv (evp rfl (evp rfl (evp rfl (evp ?_ (evp ?_ (evn ?_ (evp ?_ (Ev.bind (same_buddies (N : Int) F U (by omega) (by omega)) (evp rfl (Ev.bind hI (evp rfl (evn ?_ (J1 l1 hb2))))))))))))))))
   ·rw [u64_small _ (by omega) (by omega)]; omega
   ·simp only; rw [hsh, hsum]; unfold wrap64; omega
   ·rw [hsh]; omega
   ·rw [hsh, Int.tmod_eq_emod_of_nonneg (by omega), ← pow_cast]; exact_mod_cast hal
   ·have := grB_le T2 0 (show (0 : Int) ≤ (N : Int) by omega) hord
    simp only
    omega

end Go.Proofs.Ytbjcioihomeikaa.Pure
