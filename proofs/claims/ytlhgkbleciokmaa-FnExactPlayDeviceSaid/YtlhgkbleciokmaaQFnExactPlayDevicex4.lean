/- The walks of FnExactPlayDevice: Go's calls come to what the Lean functions beside them say; no condition. -/
import Derived.Test.YtlhgkbleciokmaaQFnExactPlayDevicex0
import Derived.Test.YtlhgkbleciokmaaQFnExactPlayDevicex3
namespace Go.Proofs.Ytlhgkbleciokmaa.PFnExactPlayDevice
open Go.RowKit Go.Proofs.YtlhgkbleciokmaaW.PrintWords Go.Proofs.YtlhgkbleciokmaaW.PrintLast Go.Proofs.YtlhgkbleciokmaaW.PrintMore
attribute [local go_sem] max2_int min2_int max_two min_two max_three min_three max_four min_four   -- for this text's walks alone
set_option linter.unusedVariables false
set_option linter.unusedSimpArgs false
set_option maxRecDepth 100000

/-! ### spec_NewDevice: function 35 -/
def spec_NewDevice.l0 : Nat → Int → Int → List ByteArray → Option (List ByteArray × (List (S42)) × Bool)
 | 0, _, _, _ => none
 | k + 1, x0, x5, x193000 => if x5 < x0 then ((spec_l1Zeros.f 8).bind fun t193 => (if x193000.length < 8796093022208 then (spec_NewDevice.l0 k x0 (wrap64 (x5 + 1)) (x193000 ++ [t193])) else (none))) else (some (x193000, ([] : List (S42)), true))
def spec_NewDevice.f (k : Nat) (a0 : Int) : Option (List ByteArray × (List (S42)) × Bool) := (spec_l1In.f a0 1 32).bind fun t191 => (if t191 = true then (spec_NewDevice.l0 k a0 0 ([] : List ByteArray)) else (some (([] : List ByteArray), ([] : List (S42)), false)))
theorem spec_NewDevice.mono_l : ∀ k, (∀ y0 y1 y2, LeO (spec_NewDevice.l0 k y0 y1 y2) (spec_NewDevice.l0 (k + 1) y0 y1 y2))
 | 0 => fun _ _ _ r h => by change none = some r at h; cases h
 | k + 1 => by
  have ih0 := spec_NewDevice.mono_l k
  ·intro y0 y1 y2
   unfold spec_NewDevice.l0
   repeat' first
   | (with_reducible exact ih0 _ _ _)
   | (with_reducible exact LeO.refl _)
   | (with_reducible exact LeO.none _)
   | (with_reducible refine LeO.ite ?_ ?_)
   | (with_reducible refine LeO.bind ?_ (fun _ => ?_))
   | exact ih0 _ _ _
   | exact LeO.none _
   | refine LeO.ite ?_ ?_
   | refine LeO.bind ?_ (fun _ => ?_)
theorem spec_NewDevice.mono : ∀ a0 k, LeO (spec_NewDevice.f k a0) (spec_NewDevice.f (k + 1) a0) := by
 intro a0 k
 have ih0 := spec_NewDevice.mono_l k
 unfold spec_NewDevice.f
 repeat' first
   | (with_reducible exact ih0 _ _ _)
   | (with_reducible exact LeO.refl _)
   | (with_reducible exact LeO.none _)
   | (with_reducible refine LeO.ite ?_ ?_)
   | (with_reducible refine LeO.bind ?_ (fun _ => ?_))
   | exact ih0 _ _ _
   | exact LeO.none _
   | refine LeO.ite ?_ ?_
   | refine LeO.bind ?_ (fun _ => ?_)
set_option maxHeartbeats 8000000 in
set_option maxRecDepth 100000 in
theorem spec_NewDevice.calls (k : Nat) (a0 : Int) (r1 : List ByteArray) (r2 : List (S42)) (r3 : Bool) (w : World) (h : spec_NewDevice.f k a0 = some (r1, r2, r3)) :
  Calls Try.prog 35 #[.int .i64 a0] w fun e w' => ∃ v0_ v1_ : Value, e = .returned (.tuple #[.agg #[v0_, v1_], .bool r3]) ∧ Kd.R Kd.string 9 w' w.heap.size (fun _ => True) v0_ r1 ∧ Kd.R k42 42 w' w.heap.size (fun _ => True) v1_ r2 ∧ Below w.heap.size w w' := by
 have hu30 := Try.underlying30
 have HB := aM (Below.refl w.heap.size w)
 have H : ((spec_l1In.f a0 1 32).bind fun t191 => (if t191 = true then (spec_NewDevice.l0 k a0 0 ([] : List ByteArray)) else (some (([] : List ByteArray), ([] : List (S42)), false)))) = some (r1, r2, r3) := h
 clear h
 replace H := Option.bind_eq_some_iff.mp H
 obtain ⟨t191, A20, H⟩ := H
 replace H : (if t191 = true then (spec_NewDevice.l0 k a0 0 ([] : List ByteArray)) else (some (([] : List ByteArray), ([] : List (S42)), false))) = some (r1, r2, r3) := H
 have A2 := aM A20
 clear A20
 by_cases c3 : t191 = true
 ·subst c3
  have H1 : (spec_NewDevice.l0 k a0 0 ([] : List ByteArray)) = some (r1, r2, r3) := by rw [if_pos rfl] at H; exact H
  clear H
  have H := H1
  clear H1
  have H' := aM H
  clear H
  go_enter Try.func35, Try.ntmps35
  go_wp2_with (first | ((with_reducible refine gate_dst (N := 2) rfl ?_); refine box_event ?hg (N := 2) ?hd (cs := #[.slice none 0 0, .slice none 0 0]) (t := 30) ?hr ?_; (case hd => rfl); (case hg => rfl); (case hr => first | (go_simp; done) | (go_simp; rfl)); intro gb190 hg w4 hbox hb; have BK190 := aM (hbox); have GW190 := aM ((by rw [hg]; exact (zZ (zH HB.out)) : w.heap.size ≤ gb190)); have GE190 := aM ((by rw [hg]; exact (zZ (zH HB.out)) : w.heap.size ≤ gb190)); replace HB := aM (zT (zH HB.out) hb); clear hb hbox hg) | ((with_reducible refine gate_callee (f := 53) rfl ?_); refine goesL_ (some 7) rfl rfl Try.func53 (by kernel_rfl) rfl #[.int .i64 a0, .int .i64 1, .int .i64 32] rfl (by (try simp only [List.map_toArray, List.map_cons, List.map_nil]); first | done | rfl | (simp only [List.length_drop, List.length_take]; rfl)) ?_; (with_reducible refine (spec_l1In.calls a0 1 32 true _ A2.out).mono ?_); rintro e w' ⟨rfl, ⟨nd, rfl⟩⟩; refine ⟨_, rfl, ?_⟩; (try (rw [drewN_self w4]; generalize hq_ : World.drewN w4 _ = w4; have n0_ : Aside0 (w4.heap[gb190]? = some (.cells #[.slice none 0 0, .slice none 0 0] 30 (0, 0))) := ⟨by rw [← hq_]; exact (yH BK190.out)⟩; have n1_ : Aside0 (Below w.heap.size w w4) := ⟨by rw [← hq_]; exact (zH HB.out)⟩; clear BK190 HB hq_; have BK190 := n0_; have HB := n1_; clear n0_ n1_))) | ((with_reducible refine gate_dst (N := 4) rfl ?_); refine box_event ?hg (N := 4) ?hd (cs := #[.slice none 0 0, .slice none 0 0]) (t := 30) ?hr ?_; (case hd => rfl); (case hg => rfl); (case hr => first | (go_simp; done) | (go_simp; rfl)); intro gb192 hg w5 hbox hb; have BK192 := aM (hbox); have GW192 := aM ((by rw [hg]; exact (zZ (zH HB.out)) : w.heap.size ≤ gb192)); have GE192 := aM ((by rw [hg]; exact (zZ (zH HB.out)) : w.heap.size ≤ gb192)); replace HB := aM (zT (zH HB.out) hb); have NB190_192 := nL BK190.out hg; have NB192_190 := nR BK190.out hg; replace BK190 := yK BK190.out hb; clear hb hbox hg; have hnb6 := NB192_190.out; have hnc6 := NB190_192.out; have hcz7_0 : w5.cell? ⟨gb192, 0, none⟩ = some (.slice none 0 0) := yc BK192.out 0; have hcz7_1 : w5.cell? ⟨gb192, 1, none⟩ = some (.slice none 0 0) := yc BK192.out 1; have hfz7_0 := yZ BK192.out 0; have hfz7_1 := yZ BK192.out 1))
  go_loopg [5] k (fun kq v5 w' => ∃ (x5_1 : Int) (x193000_1 : List ByteArray) (u193000 : Value), v5 = .int .i64 x5_1 ∧ Aside0 (spec_NewDevice.l0 kq a0 x5_1 x193000_1 = some (r1, r2, r3)) ∧ Aside0 (kq ≤ k) ∧ Aside0 (Kd.R Kd.string 9 w' w.heap.size (fun _ => True) u193000 x193000_1) ∧ Aside0 (w'.heap[gb190]? = some (.cells #[(.slice none 0 0), (.slice none 0 0)] 30 (0, 0))) ∧ Aside0 (w'.heap[gb192]? = some (.cells #[u193000, (.slice none 0 0)] 30 (0, 0))) ∧ Aside0 (Below w.heap.size w w'))
  case atStart => exact ⟨(0), (([] : List ByteArray)), (.slice none 0 0), (by first | rfl | (simp; done) | (simp [*]; done)), H', ⟨Nat.le_refl _⟩, ⟨by first | exact Kd.R_nil _ _ _ _ _ | exact Kd.N_nil _ _ _ _ _ | exact Kd.V_nil _ _ _ _ _ | exact Kd.Q_nil _ _ _ _ _ | exact Kd.S_nil _ _ _ _ _⟩, ⟨by (with_reducible repeat (first | refine yN ?_ _ | refine yD ?_ | refine yA ?_ _)); refine yF ?_ NB190_192.out _; (with_reducible repeat (first | refine yN ?_ _ | refine yD ?_ | refine yA ?_ _)); refine yF ?_ NB190_192.out _; (with_reducible repeat (first | refine yN ?_ _ | refine yD ?_ | refine yA ?_ _)); exact BK190.out⟩, ⟨by (with_reducible repeat (first | refine yN ?_ _ | refine yD ?_ | refine yA ?_ _)); refine yP (cs := #[.slice none 0 0, .slice none 0 0]) ?_ 1 _ rfl; (with_reducible repeat (first | refine yN ?_ _ | refine yD ?_ | refine yA ?_ _)); refine yP (cs := #[.slice none 0 0, .slice none 0 0]) ?_ 0 _ rfl; (with_reducible repeat (first | refine yN ?_ _ | refine yD ?_ | refine yA ?_ _)); exact BK192.out⟩, ⟨zH HB.out⟩⟩
  case round =>
   clear H'
   (try clear p2); (try clear c3); (try clear c5); (try clear c6); (try clear hcz7_0); (try clear hcz7_1); (try clear hfz7_0); (try clear hfz7_1)
   obtain ⟨x5_1, x193000_1, u193000, rfl, HA, HK1, p0', BK190, BK192, HB⟩ := hrel
   cases gk with
   | zero => exact absurd HA.out (fun h_ => by change none = some _ at h_; cases h_)
   | succ k1 =>
    have H := HA.out
    clear HA
    simp only [spec_NewDevice.l0] at H
    by_cases c8 : x5_1 < a0
    ·rw [if_pos c8] at H
     have c8b0 : decide (x5_1 < a0) = true := decide_eq_true c8
     clear c8
     replace H := Option.bind_eq_some_iff.mp H
     obtain ⟨t193, A90, H⟩ := H
     replace H : (if x193000_1.length < 8796093022208 then (spec_NewDevice.l0 k1 a0 (wrap64 (x5_1 + 1)) (x193000_1 ++ [t193])) else (none)) = some (r1, r2, r3) := H
     have A9 := aM A90
     clear A90
     by_cases c10 : x193000_1.length < 8796093022208
     ·rw [if_pos c10] at H
      have LMc10 := aM c10
      clear c10
      obtain ⟨y194, hy194⟩ : ∃ y_ : List ByteArray, y_ = (x193000_1 ++ [t193]) := ⟨_, rfl⟩
      replace H : (spec_NewDevice.l0 k1 a0 (wrap64 (x5_1 + 1)) y194) = some (r1, r2, r3) := by first | (rw [hy194]; with_reducible exact H) | (have H2_ := (Option.bind_some _ _).symm.trans H; rw [hy194]; with_reducible exact H2_) | (have H2_ := (Option.bind_some _ _).symm.trans H; with_reducible exact H2_) | with_reducible exact H | (rw [hy194]; exact H) | exact H
      have Ny194 := aM hy194
      clear hy194
      have H' := aM H
      clear H
      try go_wp2
      replace p0' := aM (xD p0'.out)
      replace BK190 := aM (yD BK190.out)
      replace BK192 := aM (yD BK192.out)
      replace HB := aM (zD HB.out)
      refine start_ (n := 7) (S := fun w' => w'.cell? ⟨gb192, 0, none⟩ = some (u193000) ∧ w'.cell? ⟨gb192, 1, none⟩ = some (.slice none 0 0)) (ds := [6]) #[fF,fF,fF,fF,fF,fF,fF] (by kernel_rfl) rfl rfl ⟨yc BK192.out 0, yc BK192.out 1⟩ (fun hHeld => ?_)
      generalize wr.drew = w11 at p0' BK190 BK192 HB hHeld ⊢
      refine pure_ (i := 0) (N := some 16) (v := ?_) (a' := ?_) #[tT,fF,fF,fF,fF,fF,fF] rfl rfl (by kernel_rfl) (fun _ _ _ h => h) (Or.inl ⟨by rfl, ?_⟩) ?_ ?_
      rotate_left
      ·intro w'
       go_simp
       with_reducible rfl
      rotate_left
      ·simp only [Act.put, qA, qB, qC, i64_w, i32_w]
       rfl
      refine take_ (i := 1) (N := some 17) (v := ?_) (a' := ?_) #[tT,tT,fF,fF,fF,fF,fF] rfl rfl (by kernel_rfl) (fun _ _ _ h => h) (Or.inl ⟨by rfl, ?_⟩) hHeld ?_ ?_
      rotate_left
      ·rintro w' ⟨s0, s1⟩
       go_simp
       with_reducible rfl
      rotate_left
      ·simp only [Act.put, qA, qB, qC, i64_w, i32_w]
       rfl
      refine one_ (i := 2) (N := some 18) #[tT,tT,tT,fF,fF,fF,fF] rfl rfl (by kernel_rfl) (by decide) (fun K hK => ?_)
      refine gS Try.func73 (by kernel_rfl) rfl #[.int .i64 8] (by rfl) rfl rfl ?_
      with_reducible refine (spec_l1Zeros.calls 8 t193 _ A9.out).mono ?_
      rintro e w12 ⟨rfl, hb⟩
      refine ⟨_, rfl, ?_⟩
      replace p0' := xK p0'.out hb
      replace BK190 := yK BK190.out hb
      replace BK192 := yK BK192.out hb
      replace HB := aM (zT (zH HB.out) hb)
      (try clear hb)
      refine hK.out _ _ ⟨yc BK192.out 0, yc BK192.out 1⟩ (fun hHeld => ?_)
      clear hK K
      refine norm_ (a' := ?_) ?_ ?_
      rotate_left
      ·show Act.put _ (some 18) _ = _
       simp only [Act.put, qA, qB, qC, i64_w, i32_w]
       rfl
      refine one_ (i := 3) (N := some 19) #[tT,tT,tT,tT,fF,fF,fF] rfl rfl (by kernel_rfl) (by decide) (fun K hK => ?_)
      refine value_ (w1 := ?_) (v := ?_) (by rfl) rfl ?_ ?_
      rotate_left 2
      ·go_simp
       constructor
       ·rfl
       ·rfl
      refine hK.out _ _ ⟨(yC (yA BK192.out _) 0).trans rfl, (yC (yA BK192.out _) 1).trans rfl⟩ (fun hHeld => ?_)
      clear hK K
      refine norm_ (a' := ?_) ?_ ?_
      rotate_left
      ·show Act.put _ (some 19) _ = _
       simp only [Act.put, qA, qB, qC, i64_w, i32_w]
       rfl
      refine one_ (i := 4) (N := some 20) #[tT,tT,tT,tT,tT,fF,fF] rfl rfl (by kernel_rfl) (by decide) (fun K hK => ?_)
      refine Kd.R_append_step Kd.string (w0 := w) w.heap.size (by rfl) (.tmp 17) (.tmp 19) 22 9 (.string ⟨#[]⟩) 16 rfl Try.underlying22 info9 rfl (by decide) (by omega) u193000 x193000_1 t193 [.string t193] (fun _ => True) (fun _ => False) rfl rfl ?aP (fun _ hk => hk.elim) ?aF ?aO ?aB ?aS ?aL ?_
      (case aP => exact rfl)
      (case aB => exact (zH HB.out))
      (case aF => exact (fun _ _ => trivial))
      (case aO => exact (xH p0'.out))
      (case aS => exact (zZ (zH HB.out)))
      (case aL => have := LMc10.out; omega)
      intro v195 w13 ho hb hg hat
      rw [← Ny194.out] at ho
      replace BK190 := aM (blk_grown (g := gb190) (o := .cells #[.slice none 0 0, .slice none 0 0] 30 (0, 0)) (yH BK190.out) hg (Kd.R_ne p0'.out BK190.out (by decide)))
      replace BK192 := aM (blk_grown (g := gb192) (o := .cells #[u193000, .slice none 0 0] 30 (0, 0)) (yH BK192.out) hg (Kd.R_ne p0'.out BK192.out (by decide)))
      replace HB := aM (hb)
      have HO196 := aM (ho)
      clear p0'
      clear ho hb hg hat
      obtain ⟨Ao14, co14, eo14⟩ := Kd.R_slice HO196.out
      (first | subst eo14 | obtain ⟨rfl, rfl⟩ := eI eo14)
      refine hK.out _ _ ⟨yc BK192.out 0, yc BK192.out 1⟩ (fun hHeld => ?_)
      clear hK K
      refine norm_ (a' := ?_) ?_ ?_
      rotate_left
      ·show Act.put _ (some 20) _ = _
       simp only [Act.put, qA, qB, qC, i64_w, i32_w]
       rfl
      refine pure_ (i := 5) (N := some 21) (v := ?_) (a' := ?_) #[tT,tT,tT,tT,tT,tT,fF] rfl rfl (by kernel_rfl) (fun _ _ _ h => h) (Or.inl ⟨by rfl, ?_⟩) ?_ ?_
      rotate_left
      ·intro w'
       go_simp
       with_reducible rfl
      rotate_left
      ·simp only [Act.put, qA, qB, qC, i64_w, i32_w]
       rfl
      refine last_ (i := 6) (N := none) #[tT,tT,tT,tT,tT,tT,tT] rfl rfl (by kernel_rfl) (by decide) (fun K hK => ?_)
      have hs15 : w13.cell? ⟨gb192, 0, none⟩ = some (u193000) := yc BK192.out 0
      have hfs15 := yZ BK192.out 0
      have hns15_0 := NB190_192.out
      have hms15_0 := NB192_190.out
      refine skip_ (w1 := ?_) (by rfl) rfl ?_ ?_
      rotate_left
      ·go_simp
       rfl
      refine hK.out _ _ ?_
      clear hK K
      refine done_ (by kernel_rfl) ?_
      try go_wp2
      go_roundg k1
      case measure => have := HK1.out; omega
      case rel => exact ⟨(wrap64 (x5_1 + 1)), (y194), (.slice Ao14 y194.length co14), (by first | rfl | (simp; done) | (simp [*]; done)), H', ⟨by have := HK1.out; omega⟩, ⟨xH (xM (xF (p := ⟨gb192, 0, none⟩) (xT HO196.out BK192.out (by decide)) (fun _ hk => hk.2) (.slice Ao14 y194.length co14)) (fun _ hk => trivial))⟩, ⟨by (with_reducible repeat (first | refine yN ?_ _ | refine yD ?_ | refine yA ?_ _)); refine yF ?_ NB190_192.out _; (with_reducible repeat (first | refine yN ?_ _ | refine yD ?_ | refine yA ?_ _)); exact BK190.out⟩, ⟨by (with_reducible repeat (first | refine yN ?_ _ | refine yD ?_ | refine yA ?_ _)); refine yP (cs := #[u193000, .slice none 0 0]) ?_ 0 _ rfl; (with_reducible repeat (first | refine yN ?_ _ | refine yD ?_ | refine yA ?_ _)); exact BK192.out⟩, ⟨zH HB.out⟩⟩
     ·rw [if_neg c10] at H
      exact absurd H (by simp)
    ·rw [if_neg c8] at H
     have c8b0 : decide (x5_1 < a0) = false := decide_eq_false c8
     clear c8
     simp only [Option.some.injEq, Prod.mk.injEq] at H
     obtain ⟨rfl, rfl, rfl⟩ := H
     have hnb16 := NB192_190.out
     have hnc16 := NB190_192.out
     have hcz17_0 : wr.cell? ⟨gb192, 0, none⟩ = some (u193000) := yc BK192.out 0
     have hcz17_1 : wr.cell? ⟨gb192, 1, none⟩ = some (.slice none 0 0) := yc BK192.out 1
     have hfz17_0 := yZ BK192.out 0
     have hfz17_1 := yZ BK192.out 1
     obtain ⟨Ao18, co18, eo18⟩ := Kd.R_slice p0'.out
     subst eo18
     have hcz19_0 : wr.cell? ⟨gb190, 0, none⟩ = some (.slice none 0 0) := yc BK190.out 0
     have hcz19_1 : wr.cell? ⟨gb190, 1, none⟩ = some (.slice none 0 0) := yc BK190.out 1
     have hfz19_0 := yZ BK190.out 0
     have hfz19_1 := yZ BK190.out 1
     go_wp2
     refine bodyPost_ret (results_ct rfl _ _ gb190 30 #[.slice Ao18 x193000_1.length co18, .slice none 0 0] (0, 0) _ rfl (by (with_reducible repeat (first | refine yN ?_ _ | refine yD ?_ | refine yA ?_ _)); refine yP (cs := #[.slice Ao18 x193000_1.length co18, .slice none 0 0]) ?_ 1 _ rfl; (with_reducible repeat (first | refine yN ?_ _ | refine yD ?_ | refine yA ?_ _)); refine yP (cs := #[.slice none 0 0, .slice none 0 0]) ?_ 0 _ rfl; (with_reducible repeat (first | refine yN ?_ _ | refine yD ?_ | refine yA ?_ _)); exact BK190.out) Try.underlying30 rfl (by kernel_rfl)) rfl ?_
     exact ⟨_, _, by first | rfl | (simp [errW_none, errW_some] <;> rfl) | (simp [*, errW_none, errW_some] <;> rfl), xH (xM (xF (p := ⟨gb190, 1, none⟩) (xF (p := ⟨gb190, 0, none⟩) (xT p0'.out BK190.out (by decide)) (fun _ hk => hk.2) (.slice Ao18 x193000_1.length co18)) (fun _ hk => hk.2) (.slice none 0 0)) (fun _ hk => trivial)), by first | exact Kd.R_nil _ _ _ _ _ | exact Kd.N_nil _ _ _ _ _ | exact Kd.V_nil _ _ _ _ _ | exact Kd.Q_nil _ _ _ _ _ | exact Kd.S_nil _ _ _ _ _, zH HB.out⟩
 ·replace c3 := Bool.eq_false_iff.mpr c3
  subst c3
  have H1 : (some (([] : List ByteArray), ([] : List (S42)), false)) = some (r1, r2, r3) := by rw [if_neg (show ¬ (false = true) by decide)] at H; exact H
  clear H
  have H := H1
  clear H1
  simp only [Option.some.injEq, Prod.mk.injEq] at H
  obtain ⟨rfl, rfl, rfl⟩ := H
  go_enter Try.func35, Try.ntmps35
  go_wp2_with (first | ((with_reducible refine gate_dst (N := 2) rfl ?_); refine box_event ?hg (N := 2) ?hd (cs := #[.slice none 0 0, .slice none 0 0]) (t := 30) ?hr ?_; (case hd => rfl); (case hg => rfl); (case hr => first | (go_simp; done) | (go_simp; rfl)); intro gb190 hg w20 hbox hb; have BK190 := aM (hbox); have GW190 := aM ((by rw [hg]; exact (zZ (zH HB.out)) : w.heap.size ≤ gb190)); have GE190 := aM ((by rw [hg]; exact (zZ (zH HB.out)) : w.heap.size ≤ gb190)); replace HB := aM (zT (zH HB.out) hb); clear hb hbox hg) | ((with_reducible refine gate_callee (f := 53) rfl ?_); refine goesL_ (some 7) rfl rfl Try.func53 (by kernel_rfl) rfl #[.int .i64 a0, .int .i64 1, .int .i64 32] rfl (by (try simp only [List.map_toArray, List.map_cons, List.map_nil]); first | done | rfl | (simp only [List.length_drop, List.length_take]; rfl)) ?_; (with_reducible refine (spec_l1In.calls a0 1 32 false _ A2.out).mono ?_); rintro e w' ⟨rfl, ⟨nd, rfl⟩⟩; refine ⟨_, rfl, ?_⟩; (try (rw [drewN_self w20]; generalize hq_ : World.drewN w20 _ = w20; have n0_ : Aside0 (w20.heap[gb190]? = some (.cells #[.slice none 0 0, .slice none 0 0] 30 (0, 0))) := ⟨by rw [← hq_]; exact (yH BK190.out)⟩; have n1_ : Aside0 (Below w.heap.size w w20) := ⟨by rw [← hq_]; exact (zH HB.out)⟩; clear BK190 HB hq_; have BK190 := n0_; have HB := n1_; clear n0_ n1_)); have hcz21_0 : w20.cell? ⟨gb190, 0, none⟩ = some (.slice none 0 0) := yc BK190.out 0; have hcz21_1 : w20.cell? ⟨gb190, 1, none⟩ = some (.slice none 0 0) := yc BK190.out 1; have hfz21_0 := yZ BK190.out 0; have hfz21_1 := yZ BK190.out 1))
  refine bodyPost_ret (results_ct rfl _ _ gb190 30 #[.slice none 0 0, .slice none 0 0] (0, 0) _ rfl (by (with_reducible repeat (first | refine yN ?_ _ | refine yD ?_ | refine yA ?_ _)); refine yP (cs := #[.slice none 0 0, .slice none 0 0]) ?_ 1 _ rfl; (with_reducible repeat (first | refine yN ?_ _ | refine yD ?_ | refine yA ?_ _)); refine yP (cs := #[.slice none 0 0, .slice none 0 0]) ?_ 0 _ rfl; (with_reducible repeat (first | refine yN ?_ _ | refine yD ?_ | refine yA ?_ _)); exact BK190.out) Try.underlying30 rfl (by kernel_rfl)) rfl ?_
  exact ⟨_, _, by first | rfl | (simp [errW_none, errW_some] <;> rfl) | (simp [*, errW_none, errW_some] <;> rfl), by first | exact Kd.R_nil _ _ _ _ _ | exact Kd.N_nil _ _ _ _ _ | exact Kd.V_nil _ _ _ _ _ | exact Kd.Q_nil _ _ _ _ _ | exact Kd.S_nil _ _ _ _ _, by first | exact Kd.R_nil _ _ _ _ _ | exact Kd.N_nil _ _ _ _ _ | exact Kd.V_nil _ _ _ _ _ | exact Kd.Q_nil _ _ _ _ _ | exact Kd.S_nil _ _ _ _ _, zH HB.out⟩

/-! ### spec_PlayDevice: function 38 -/
mutual
def spec_PlayDevice.j0 : Nat → List (S42) → Bool → List ByteArray → List (S42) → Option (List ByteArray × (List (S42)) × Bool)
 | 0, _, _, _, _ => none
 | k + 1, x1, x21, x206000, x206001 => if x21 = true then (some (([] : List ByteArray), ([] : List (S42)), false)) else (spec_PlayDevice.l0 k x1 (x1.length : Int) 0 x206000 x206001)
def spec_PlayDevice.l0 : Nat → List (S42) → Int → Int → List ByteArray → List (S42) → Option (List ByteArray × (List (S42)) × Bool)
 | 0, _, _, _, _, _ => none
 | k + 1, x23, x24, x25, x206000, x206001 => if x25 < x24 then (if 0 ≤ x25 then (if x25 < (x23.length : Int) then (if ((rd_T42 x23 x25).f0) = (-1) then (spec_PlayDevice.j2 k x23 x24 x25 (((rd_T42 x23 x25).f1).toList == ([] : List UInt8)) x206000 x206001 ((rd_T42 x23 x25).f0) ((rd_T42 x23 x25).f1)) else (spec_PlayDevice.j2 k x23 x24 x25 false x206000 x206001 ((rd_T42 x23 x25).f0) ((rd_T42 x23 x25).f1))) else (none)) else (none)) else (some (x206000, x206001, true))
def spec_PlayDevice.j2 : Nat → List (S42) → Int → Int → Bool → List ByteArray → List (S42) → Int → ByteArray → Option (List ByteArray × (List (S42)) × Bool)
 | 0, _, _, _, _, _, _, _, _ => none
 | k + 1, x23, x24, x25, x36, x206000, x206001, x208000, x208001 => if x36 = true then ((spec_FlushDevice.f k x206000 x206001).bind fun bt208 => (if bt208.2.2 = true then (spec_PlayDevice.l0 k x23 x24 (wrap64 (x25 + 1)) bt208.1 bt208.2.1) else (some (([] : List ByteArray), ([] : List (S42)), false)))) else ((spec_WriteSector.f k x206000 x206001 x208000 x208001).bind fun bt215 => (if bt215.2.2 = true then (spec_PlayDevice.l0 k x23 x24 (wrap64 (x25 + 1)) bt215.1 bt215.2.1) else (some (([] : List ByteArray), ([] : List (S42)), false))))
end
def spec_PlayDevice.f (k : Nat) (a0 : Int) (l1 : List (S42)) : Option (List ByteArray × (List (S42)) × Bool) := (spec_NewDevice.f k a0).bind fun bt198 => (if bt198.2.2 = true then (spec_PlayDevice.j0 k l1 (decide ((l1.length : Int) > 200)) bt198.1 bt198.2.1) else (spec_PlayDevice.j0 k l1 true bt198.1 bt198.2.1))
theorem spec_PlayDevice.mono_l : ∀ k, (∀ y0 y1 y2 y3, LeO (spec_PlayDevice.j0 k y0 y1 y2 y3) (spec_PlayDevice.j0 (k + 1) y0 y1 y2 y3)) ∧ (∀ y0 y1 y2 y3 y4, LeO (spec_PlayDevice.l0 k y0 y1 y2 y3 y4) (spec_PlayDevice.l0 (k + 1) y0 y1 y2 y3 y4)) ∧ (∀ y0 y1 y2 y3 y4 y5 y6 y7, LeO (spec_PlayDevice.j2 k y0 y1 y2 y3 y4 y5 y6 y7) (spec_PlayDevice.j2 (k + 1) y0 y1 y2 y3 y4 y5 y6 y7))
 | 0 => ⟨fun _ _ _ _ r h => by simp [spec_PlayDevice.j0] at h, fun _ _ _ _ _ r h => by simp [spec_PlayDevice.l0] at h, fun _ _ _ _ _ _ _ _ r h => by simp [spec_PlayDevice.j2] at h⟩
 | k + 1 => by
  obtain ⟨ih0, ih1, ih2⟩ := spec_PlayDevice.mono_l k
  refine ⟨?_, ?_, ?_⟩
  ·intro y0 y1 y2 y3
   unfold spec_PlayDevice.j0
   repeat' first
   | (with_reducible exact ih0 _ _ _ _)
   | (with_reducible exact ih1 _ _ _ _ _)
   | (with_reducible exact ih2 _ _ _ _ _ _ _ _)
   | (with_reducible exact spec_FlushDevice.mono _ _ _)
   | (with_reducible exact spec_NewDevice.mono _ _)
   | (with_reducible exact spec_WriteSector.mono _ _ _ _ _)
   | (with_reducible exact LeO.refl _)
   | (with_reducible exact LeO.none _)
   | (with_reducible refine LeO.ite ?_ ?_)
   | (with_reducible refine LeO.bind ?_ (fun _ => ?_))
   | exact ih0 _ _ _ _
   | exact ih1 _ _ _ _ _
   | exact ih2 _ _ _ _ _ _ _ _
   | exact spec_FlushDevice.mono _ _ _
   | exact spec_NewDevice.mono _ _
   | exact spec_WriteSector.mono _ _ _ _ _
   | exact LeO.none _
   | refine LeO.ite ?_ ?_
   | refine LeO.bind ?_ (fun _ => ?_)
  ·intro y0 y1 y2 y3 y4
   unfold spec_PlayDevice.l0
   repeat' first
   | (with_reducible exact ih0 _ _ _ _)
   | (with_reducible exact ih1 _ _ _ _ _)
   | (with_reducible exact ih2 _ _ _ _ _ _ _ _)
   | (with_reducible exact spec_FlushDevice.mono _ _ _)
   | (with_reducible exact spec_NewDevice.mono _ _)
   | (with_reducible exact spec_WriteSector.mono _ _ _ _ _)
   | (with_reducible exact LeO.refl _)
   | (with_reducible exact LeO.none _)
   | (with_reducible refine LeO.ite ?_ ?_)
   | (with_reducible refine LeO.bind ?_ (fun _ => ?_))
   | exact ih0 _ _ _ _
   | exact ih1 _ _ _ _ _
   | exact ih2 _ _ _ _ _ _ _ _
   | exact spec_FlushDevice.mono _ _ _
   | exact spec_NewDevice.mono _ _
   | exact spec_WriteSector.mono _ _ _ _ _
   | exact LeO.none _
   | refine LeO.ite ?_ ?_
   | refine LeO.bind ?_ (fun _ => ?_)
  ·intro y0 y1 y2 y3 y4 y5 y6 y7
   unfold spec_PlayDevice.j2
   repeat' first
   | (with_reducible exact ih0 _ _ _ _)
   | (with_reducible exact ih1 _ _ _ _ _)
   | (with_reducible exact ih2 _ _ _ _ _ _ _ _)
   | (with_reducible exact spec_FlushDevice.mono _ _ _)
   | (with_reducible exact spec_NewDevice.mono _ _)
   | (with_reducible exact spec_WriteSector.mono _ _ _ _ _)
   | (with_reducible exact LeO.refl _)
   | (with_reducible exact LeO.none _)
   | (with_reducible refine LeO.ite ?_ ?_)
   | (with_reducible refine LeO.bind ?_ (fun _ => ?_))
   | exact ih0 _ _ _ _
   | exact ih1 _ _ _ _ _
   | exact ih2 _ _ _ _ _ _ _ _
   | exact spec_FlushDevice.mono _ _ _
   | exact spec_NewDevice.mono _ _
   | exact spec_WriteSector.mono _ _ _ _ _
   | exact LeO.none _
   | refine LeO.ite ?_ ?_
   | refine LeO.bind ?_ (fun _ => ?_)
theorem spec_PlayDevice.mono : ∀ a0 a1 k, LeO (spec_PlayDevice.f k a0 a1) (spec_PlayDevice.f (k + 1) a0 a1) := by
 intro a0 a1 k
 obtain ⟨ih0, ih1, ih2⟩ := spec_PlayDevice.mono_l k
 unfold spec_PlayDevice.f
 repeat' first
   | (with_reducible exact ih0 _ _ _ _)
   | (with_reducible exact ih1 _ _ _ _ _)
   | (with_reducible exact ih2 _ _ _ _ _ _ _ _)
   | (with_reducible exact spec_FlushDevice.mono _ _ _)
   | (with_reducible exact spec_NewDevice.mono _ _)
   | (with_reducible exact spec_WriteSector.mono _ _ _ _ _)
   | (with_reducible exact LeO.refl _)
   | (with_reducible exact LeO.none _)
   | (with_reducible refine LeO.ite ?_ ?_)
   | (with_reducible refine LeO.bind ?_ (fun _ => ?_))
   | exact ih0 _ _ _ _
   | exact ih1 _ _ _ _ _
   | exact ih2 _ _ _ _ _ _ _ _
   | exact spec_FlushDevice.mono _ _ _
   | exact spec_NewDevice.mono _ _
   | exact spec_WriteSector.mono _ _ _ _ _
   | exact LeO.none _
   | refine LeO.ite ?_ ?_
   | refine LeO.bind ?_ (fun _ => ?_)
set_option maxHeartbeats 8000000 in
set_option maxRecDepth 100000 in
theorem spec_PlayDevice.calls (k : Nat) (a0 : Int) (A1 : Option Addr) (c1 : Nat) (l1 : List (S42)) (r1 : List ByteArray) (r2 : List (S42)) (r3 : Bool) (w : World) (hr1 : Kd.C k42 w A1 l1.length l1) (hc1 : l1.length ≤ c1) (h : spec_PlayDevice.f k a0 l1 = some (r1, r2, r3)) :
  Calls Try.prog 38 #[.int .i64 a0, .slice A1 l1.length c1] w fun e w' => ∃ v0_ v1_ : Value, e = .returned (.tuple #[.agg #[v0_, v1_], .bool r3]) ∧ Kd.R Kd.string 9 w' w.heap.size (fun _ => True) v0_ r1 ∧ Kd.R k42 42 w' w.heap.size (fun _ => True) v1_ r2 ∧ Below w.heap.size w w' := by
 have hu30 := Try.underlying30
 have hu42 := Try.underlying42
 have HR1 := aM hr1
 have HC1 := aM hc1
 clear hr1 hc1
 have HB := aM (Below.refl w.heap.size w)
 have H : ((spec_NewDevice.f k a0).bind fun bt198 => (if bt198.2.2 = true then (spec_PlayDevice.j0 k l1 (decide ((l1.length : Int) > 200)) bt198.1 bt198.2.1) else (spec_PlayDevice.j0 k l1 true bt198.1 bt198.2.1))) = some (r1, r2, r3) := h
 clear h
 replace H := Option.bind_eq_some_iff.mp H
 obtain ⟨⟨t198, t201, t204⟩, A30, H⟩ := H
 replace H : (if t204 = true then (spec_PlayDevice.j0 k l1 (decide ((l1.length : Int) > 200)) t198 t201) else (spec_PlayDevice.j0 k l1 true t198 t201)) = some (r1, r2, r3) := H
 have A3 := aM A30
 clear A30
 have HC4 := aM H
 clear H
 go_enter Try.func38, Try.ntmps38
 go_upto_region 2 with (first | ((with_reducible refine gate_dst (N := 4) rfl ?_); (try (refine gate_guard (by rfl) ?_; dsimp only)); refine box_event ?hg (N := 4) ?hd (cs := #[.slice none 0 0, .slice none 0 0]) (t := 30) ?hr ?_; (case hd => rfl); (case hg => rfl); (case hr => first | (go_simp; done) | (go_simp; rfl)); intro gb197 hg w5 hbox hb; have BK197 := aM (hbox); have GW197 := aM ((by rw [hg]; exact (zZ (zH HB.out)) : w.heap.size ≤ gb197)); have GE197 := aM ((by rw [hg]; exact (zZ (zH HB.out)) : w.heap.size ≤ gb197)); replace HB := aM (zT (zH HB.out) hb); clear hb hbox hg) | ((with_reducible refine gate_callee (f := 35) rfl ?_); refine goesL_ (some 12) rfl rfl Try.func35 (by kernel_rfl) rfl #[.int .i64 a0] rfl (by (try simp only [List.map_toArray, List.map_cons, List.map_nil]); first | done | rfl | (simp only [List.length_drop, List.length_take]; rfl)) ?_; (with_reducible refine (spec_NewDevice.calls k a0 t198 t201 t204 _ A3.out).mono ?_); rintro e w6 ⟨v199, v202, rfl, ho0, ho1, hb⟩; refine ⟨_, rfl, ?_⟩; have HO200 := aM (xL ho0 (zZ (zH HB.out))); have HO203 := aM (xL ho1 (zZ (zH HB.out))); replace BK197 := yK BK197.out hb; replace HB := aM (zT (zH HB.out) hb); (try clear hb); (try clear ho0); (try clear ho1)) | ((with_reducible refine gate_dst (N := 6) rfl ?_); (try (refine gate_guard (by rfl) ?_; dsimp only)); refine box_event ?hg (N := 6) ?hd (cs := #[.slice none 0 0, .slice none 0 0]) (t := 30) ?hr ?_; (case hd => rfl); (case hg => rfl); (case hr => first | (go_simp; done) | (go_simp; rfl)); intro gb205 hg w7 hbox hb; replace HO200 := xK HO200.out hb; replace HO203 := xK HO203.out hb; have BK205 := aM (hbox); have GW205 := aM ((by rw [hg]; exact (zZ (zH HB.out)) : w.heap.size ≤ gb205)); have GE205 := aM ((by rw [hg]; exact (zZ (zH HB.out)) : w.heap.size ≤ gb205)); replace HB := aM (zT (zH HB.out) hb); have NB197_205 := nL BK197.out hg; have NB205_197 := nR BK197.out hg; replace BK197 := yK BK197.out hb; clear hb hbox hg; obtain ⟨Ao8, co8, eo8⟩ := Kd.R_slice HO200.out; subst eo8; have hnb9 := NB205_197.out; have hnc9 := NB197_205.out; have hcz10_0 : w7.cell? ⟨gb205, 0, none⟩ = some (.slice none 0 0) := yc BK205.out 0; have hcz10_1 : w7.cell? ⟨gb205, 1, none⟩ = some (.slice none 0 0) := yc BK205.out 1; have hfz10_0 := yZ BK205.out 0; have hfz10_1 := yZ BK205.out 1; obtain ⟨Ao11, co11, eo11⟩ := Kd.R_slice HO203.out; subst eo11))
 (try simp only [Act.put, qA, qB, qC])
 go_cut [21] (fun v21 wc => ∃ (kq : Nat) (x21_3 : Bool), v21 = .bool x21_3 ∧ Aside0 (spec_PlayDevice.j0 kq l1 x21_3 t198 t201 = some (r1, r2, r3)) ∧ Aside0 (kq ≤ k) ∧ Aside0 (Kd.R Kd.string 9 wc w.heap.size (fun _ => True) (.slice Ao8 t198.length co8) t198) ∧ Aside0 (Kd.R k42 42 wc w.heap.size (fun _ => True) (.slice Ao11 t201.length co11) t201) ∧ Aside0 (wc.heap[gb197]? = some (.cells #[(.slice none 0 0), (.slice none 0 0)] 30 (0, 0))) ∧ Aside0 (wc.heap[gb205]? = some (.cells #[(.slice Ao8 t198.length co8), (.slice Ao11 t201.length co11)] 30 (0, 0))) ∧ Aside0 (Below w.heap.size w wc))
 case first =>
  have H := HC4.out
  clear HC4
  by_cases c12 : t204 = true
  ·subst c12
   have H1 : (spec_PlayDevice.j0 k l1 (decide ((l1.length : Int) > 200)) t198 t201) = some (r1, r2, r3) := by rw [if_pos rfl] at H; exact H
   clear H
   have H := H1
   clear H1
   have H' := aM H
   clear H
   go_wp2
   go_meet
   case rel => exact ⟨_, (decide ((l1.length : Int) > 200)), (by first | rfl | (simp; done) | (simp [*]; done)), H', ⟨by first | omega | exact Nat.le_refl _⟩, ⟨xH (xM (xF (p := ⟨gb205, 1, none⟩) (xF (p := ⟨gb205, 0, none⟩) (xT HO200.out BK205.out (by decide)) (fun _ hk => hk.2) (.slice Ao8 t198.length co8)) (fun _ hk => hk.2) (.slice Ao11 t201.length co11)) (fun _ hk => trivial))⟩, ⟨xH (xM (xF (p := ⟨gb205, 1, none⟩) (xF (p := ⟨gb205, 0, none⟩) (xT HO203.out BK205.out (by decide)) (fun _ hk => hk.2) (.slice Ao8 t198.length co8)) (fun _ hk => hk.2) (.slice Ao11 t201.length co11)) (fun _ hk => trivial))⟩, ⟨by (with_reducible repeat (first | refine yN ?_ _ | refine yD ?_ | refine yA ?_ _)); refine yF ?_ NB197_205.out _; (with_reducible repeat (first | refine yN ?_ _ | refine yD ?_ | refine yA ?_ _)); refine yF ?_ NB197_205.out _; (with_reducible repeat (first | refine yN ?_ _ | refine yD ?_ | refine yA ?_ _)); exact BK197.out⟩, ⟨by (with_reducible repeat (first | refine yN ?_ _ | refine yD ?_ | refine yA ?_ _)); refine yP (cs := #[.slice Ao8 t198.length co8, .slice none 0 0]) ?_ 1 _ rfl; (with_reducible repeat (first | refine yN ?_ _ | refine yD ?_ | refine yA ?_ _)); refine yP (cs := #[.slice none 0 0, .slice none 0 0]) ?_ 0 _ rfl; (with_reducible repeat (first | refine yN ?_ _ | refine yD ?_ | refine yA ?_ _)); exact BK205.out⟩, ⟨zH HB.out⟩⟩
  ·replace c12 := Bool.eq_false_iff.mpr c12
   subst c12
   have H1 : (spec_PlayDevice.j0 k l1 true t198 t201) = some (r1, r2, r3) := by rw [if_neg (show ¬ (false = true) by decide)] at H; exact H
   clear H
   have H := H1
   clear H1
   have H' := aM H
   clear H
   go_wp2
   go_meet
   case rel => exact ⟨_, (true), (by first | rfl | (simp; done) | (simp [*]; done)), H', ⟨by first | omega | exact Nat.le_refl _⟩, ⟨xH (xM (xF (p := ⟨gb205, 1, none⟩) (xF (p := ⟨gb205, 0, none⟩) (xT HO200.out BK205.out (by decide)) (fun _ hk => hk.2) (.slice Ao8 t198.length co8)) (fun _ hk => hk.2) (.slice Ao11 t201.length co11)) (fun _ hk => trivial))⟩, ⟨xH (xM (xF (p := ⟨gb205, 1, none⟩) (xF (p := ⟨gb205, 0, none⟩) (xT HO203.out BK205.out (by decide)) (fun _ hk => hk.2) (.slice Ao8 t198.length co8)) (fun _ hk => hk.2) (.slice Ao11 t201.length co11)) (fun _ hk => trivial))⟩, ⟨by (with_reducible repeat (first | refine yN ?_ _ | refine yD ?_ | refine yA ?_ _)); refine yF ?_ NB197_205.out _; (with_reducible repeat (first | refine yN ?_ _ | refine yD ?_ | refine yA ?_ _)); refine yF ?_ NB197_205.out _; (with_reducible repeat (first | refine yN ?_ _ | refine yD ?_ | refine yA ?_ _)); exact BK197.out⟩, ⟨by (with_reducible repeat (first | refine yN ?_ _ | refine yD ?_ | refine yA ?_ _)); refine yP (cs := #[.slice Ao8 t198.length co8, .slice none 0 0]) ?_ 1 _ rfl; (with_reducible repeat (first | refine yN ?_ _ | refine yD ?_ | refine yA ?_ _)); refine yP (cs := #[.slice none 0 0, .slice none 0 0]) ?_ 0 _ rfl; (with_reducible repeat (first | refine yN ?_ _ | refine yD ?_ | refine yA ?_ _)); exact BK205.out⟩, ⟨zH HB.out⟩⟩
 case rest =>
  clear HC4
  (try clear c1); (try clear p2); (try clear c3); (try clear c9); (try clear c12); (try clear hcz10_0); (try clear hcz10_1); (try clear hfz10_0); (try clear hfz10_1)
  obtain ⟨kq, x21_3, rfl, HA, HJ3, p1', p2', BK197, BK205, HB⟩ := hcut
  cases kq with
  | zero => exact absurd HA.out (fun h_ => by change none = some _ at h_; cases h_)
  | succ kj3 =>
   have H := HA.out
   clear HA
   simp only [spec_PlayDevice.j0] at H
   by_cases c13 : x21_3 = true
   ·subst c13
    have H1 : (some (([] : List ByteArray), ([] : List (S42)), false)) = some (r1, r2, r3) := by rw [if_pos rfl] at H; exact H
    clear H
    have H := H1
    clear H1
    simp only [Option.some.injEq, Prod.mk.injEq] at H
    obtain ⟨rfl, rfl, rfl⟩ := H
    have hnb14 := NB197_205.out
    have hnc14 := NB205_197.out
    have hcz15_0 : wc.cell? ⟨gb197, 0, none⟩ = some (.slice none 0 0) := yc BK197.out 0
    have hcz15_1 : wc.cell? ⟨gb197, 1, none⟩ = some (.slice none 0 0) := yc BK197.out 1
    have hfz15_0 := yZ BK197.out 0
    have hfz15_1 := yZ BK197.out 1
    go_wp2
    refine bodyPost_ret (results_ct rfl _ _ gb197 30 #[.slice none 0 0, .slice none 0 0] (0, 0) _ rfl (by (with_reducible repeat (first | refine yN ?_ _ | refine yD ?_ | refine yA ?_ _)); refine yP (cs := #[.slice none 0 0, .slice none 0 0]) ?_ 1 _ rfl; (with_reducible repeat (first | refine yN ?_ _ | refine yD ?_ | refine yA ?_ _)); refine yP (cs := #[.slice none 0 0, .slice none 0 0]) ?_ 0 _ rfl; (with_reducible repeat (first | refine yN ?_ _ | refine yD ?_ | refine yA ?_ _)); exact BK197.out) Try.underlying30 rfl (by kernel_rfl)) rfl ?_
    exact ⟨_, _, by first | rfl | (simp [errW_none, errW_some] <;> rfl) | (simp [*, errW_none, errW_some] <;> rfl), by first | exact Kd.R_nil _ _ _ _ _ | exact Kd.N_nil _ _ _ _ _ | exact Kd.V_nil _ _ _ _ _ | exact Kd.Q_nil _ _ _ _ _ | exact Kd.S_nil _ _ _ _ _, by first | exact Kd.R_nil _ _ _ _ _ | exact Kd.N_nil _ _ _ _ _ | exact Kd.V_nil _ _ _ _ _ | exact Kd.Q_nil _ _ _ _ _ | exact Kd.S_nil _ _ _ _ _, zH HB.out⟩
   ·replace c13 := Bool.eq_false_iff.mpr c13
    subst c13
    have H1 : (spec_PlayDevice.l0 kj3 l1 (l1.length : Int) 0 t198 t201) = some (r1, r2, r3) := by rw [if_neg (show ¬ (false = true) by decide)] at H; exact H
    clear H
    have H := H1
    clear H1
    have H' := aM H
    clear H
    go_wp2
    go_loopg [25] kj3 (fun kq v25 w' => ∃ (x25_2 : Int) (x206000_2 : List ByteArray) (x206001_2 : List (S42)) (u206000 : Value) (u206001 : Value), v25 = .int .i64 x25_2 ∧ Aside0 (spec_PlayDevice.l0 kq l1 (l1.length : Int) x25_2 x206000_2 x206001_2 = some (r1, r2, r3)) ∧ Aside0 (kq ≤ kj3) ∧ Aside0 (Kd.R Kd.string 9 w' w.heap.size (fun _ => True) u206000 x206000_2) ∧ Aside0 (Kd.R k42 42 w' w.heap.size (fun _ => True) u206001 x206001_2) ∧ Aside0 (w'.heap[gb197]? = some (.cells #[(.slice none 0 0), (.slice none 0 0)] 30 (0, 0))) ∧ Aside0 (w'.heap[gb205]? = some (.cells #[u206000, u206001] 30 (0, 0))) ∧ Aside0 (Below w.heap.size w w'))
    case atStart => exact ⟨(0), (t198), (t201), (.slice Ao8 t198.length co8), (.slice Ao11 t201.length co11), (by first | rfl | (simp; done) | (simp [*]; done)), H', ⟨Nat.le_refl _⟩, ⟨xH p1'.out⟩, ⟨xH p2'.out⟩, ⟨yH BK197.out⟩, ⟨yH BK205.out⟩, ⟨zH HB.out⟩⟩
    case round =>
     clear H'
     (try clear c1); (try clear p2); (try clear c3); (try clear c9); (try clear c12); (try clear c13); (try clear c14); (try clear hcz10_0); (try clear hcz10_1); (try clear hcz15_0); (try clear hcz15_1); (try clear hfz10_0); (try clear hfz10_1); (try clear hfz15_0); (try clear hfz15_1); (try clear p2)
     obtain ⟨x25_2, x206000_2, x206001_2, u206000, u206001, rfl, HA, HK2, p1', p2', BK197, BK205, HB⟩ := hrel
     cases gk with
     | zero => exact absurd HA.out (fun h_ => by change none = some _ at h_; cases h_)
     | succ k2 =>
      have H := HA.out
      clear HA
      simp only [spec_PlayDevice.l0] at H
      by_cases c16 : x25_2 < (l1.length : Int)
      ·rw [if_pos c16] at H
       have c16b0 : decide (x25_2 < (l1.length : Int)) = true := decide_eq_true c16
       clear c16
       by_cases c17 : 0 ≤ x25_2
       ·rw [if_pos c17] at H
        have c17b0 : decide (0 ≤ x25_2) = true := decide_eq_true c17
        clear c17
        by_cases c18 : x25_2 < (l1.length : Int)
        ·rw [if_pos c18] at H
         have c18b0 : decide (x25_2 < (l1.length : Int)) = true := decide_eq_true c18
         clear c18
         have HC19 := aM H
         clear H
         have p206 : 0 ≤ (x25_2 : Int) := of_decide_eq_true (by first | (with_reducible assumption) | assumption)
         have q206 : x25_2 < (l1.length : Int) := of_decide_eq_true (by first | (with_reducible assumption) | assumption)
         obtain ⟨ad206, e206, hx206_0, hx206_1⟩ := at_T42 HR1.out x25_2 p206 q206
         cases e206
         replace hx206_0 := (HB.out.cell (World.block_lt_of_cell? w _ hx206_0)).trans hx206_0
         replace hx206_1 := (HB.out.cell (World.block_lt_of_cell? w _ hx206_1)).trans hx206_1
         replace p206 := eq_true p206
         replace q206 := eq_true q206
         go_upto_region 7 with (first | ((with_reducible refine gate_dst (N := 9) rfl ?_); (try (refine gate_guard (by rfl) ?_; dsimp only)); refine box_event ?hg (N := 9) ?hd (cs := #[.int .i64 0, .string (⟨#[]⟩ : ByteArray)]) (t := 42) ?hr ?_; (case hd => rfl); (case hg => rfl); (case hr => first | (go_simp; done) | (go_simp; rfl)); intro gb207 hg w20 hbox hb; replace p1' := xK p1'.out hb; replace p2' := aM (xB (Kd.R_elderB (xH p2'.out) gb207 (Nat.le_of_eq hg.symm)) hb); have BK207 := aM (hbox); have GW207 := aM ((by rw [hg]; exact (zZ (zH HB.out)) : w.heap.size ≤ gb207)); have GE207 := aM ((by rw [hg]; exact (zZ (zH HB.out)) : w.heap.size ≤ gb207)); replace HB := aM (zT (zH HB.out) hb); have NB197_207 := nL BK197.out hg; have NB207_197 := nR BK197.out hg; replace BK197 := yK BK197.out hb; have NB205_207 := nL BK205.out hg; have NB207_205 := nR BK205.out hg; replace BK205 := yK BK205.out hb; clear hb hbox hg; have hnb21 := NB207_197.out; have hnc21 := NB197_207.out; have hnb22 := NB207_205.out; have hnc22 := NB205_207.out; have hcz23_0 : w20.cell? ⟨gb207, 0, none⟩ = some (.int .i64 0) := yc BK207.out 0; have hcz23_1 : w20.cell? ⟨gb207, 1, none⟩ = some (.string (⟨#[]⟩ : ByteArray)) := yc BK207.out 1; have hfz23_0 := yZ BK207.out 0; have hfz23_1 := yZ BK207.out 1))
         (try simp only [Act.put, qA, qB, qC])
         go_cut [36] (fun v36 wc => ∃ (kq : Nat) (x36_18 : Bool), v36 = .bool x36_18 ∧ Aside0 (spec_PlayDevice.j2 kq l1 (l1.length : Int) x25_2 x36_18 x206000_2 x206001_2 ((rd_T42 l1 x25_2).f0) ((rd_T42 l1 x25_2).f1) = some (r1, r2, r3)) ∧ Aside0 (kq ≤ k2) ∧ Aside0 (Kd.R Kd.string 9 wc w.heap.size (fun _ => True) u206000 x206000_2) ∧ Aside0 (Kd.R k42 42 wc w.heap.size (fun k_ => k_ ≠ gb207) u206001 x206001_2) ∧ Aside0 (wc.heap[gb197]? = some (.cells #[(.slice none 0 0), (.slice none 0 0)] 30 (0, 0))) ∧ Aside0 (wc.heap[gb205]? = some (.cells #[u206000, u206001] 30 (0, 0))) ∧ Aside0 (wc.heap[gb207]? = some (.cells #[.int .i64 ((rd_T42 l1 x25_2).f0), .string ((rd_T42 l1 x25_2).f1)] 42 (0, 0))) ∧ Aside0 (Below w.heap.size w wc))
         case first =>
          have H := HC19.out
          clear HC19
          by_cases c24 : ((rd_T42 l1 x25_2).f0) = (-1)
          ·rw [if_pos c24] at H
           have c24b0 : (((rd_T42 l1 x25_2).f0) == (-1)) = true := beq_iff_eq.mpr c24
           have c24b1 : (((rd_T42 l1 x25_2).f0) != (-1)) = false := bne_eq_false_iff_eq.mpr c24
           clear c24
           (first | rw [c24b0] | (simp only [i64_w, i32_w]; rw [c24b0]) | skip)
           have H' := aM H
           clear H
           have hnb25 := NB207_197.out
           have hnc25 := NB197_207.out
           have hnb26 := NB207_205.out
           have hnc26 := NB205_207.out
           have hcz27_0 : w20.cell? ⟨gb207, 0, none⟩ = some (.int .i64 0) := yc BK207.out 0
           have hcz27_1 : w20.cell? ⟨gb207, 1, none⟩ = some (.string (⟨#[]⟩ : ByteArray)) := yc BK207.out 1
           have hfz27_0 := yZ BK207.out 0
           have hfz27_1 := yZ BK207.out 1
           go_wp2
           go_meet
           case rel => exact ⟨_, ((((rd_T42 l1 x25_2).f1).toList == ([] : List UInt8))), (by first | rfl | (simp; done) | (simp [*]; done)), H', ⟨by have := HJ3.out; have := HK2.out; first | omega | exact Nat.le_refl _⟩, ⟨xH (xM (xF (p := ⟨gb207, 1, none⟩) (xF (p := ⟨gb207, 0, none⟩) (xT p1'.out BK207.out (by decide)) (fun _ hk => hk.2) (.int .i64 ((rd_T42 l1 x25_2).f0))) (fun _ hk => hk.2) (.string ((rd_T42 l1 x25_2).f1))) (fun _ hk => trivial))⟩, ⟨xH (xM (xF (p := ⟨gb207, 1, none⟩) (xF (p := ⟨gb207, 0, none⟩) (xM p2'.out (fun k_ hk => (⟨hk, hk.2⟩ : _ ∧ k_ ≠ gb207))) (fun _ hk => hk.2) (.int .i64 ((rd_T42 l1 x25_2).f0))) (fun _ hk => hk.2) (.string ((rd_T42 l1 x25_2).f1))) (fun _ hk => hk.1.2))⟩, ⟨by (with_reducible repeat (first | refine yN ?_ _ | refine yD ?_ | refine yA ?_ _)); refine yF ?_ NB197_207.out _; (with_reducible repeat (first | refine yN ?_ _ | refine yD ?_ | refine yA ?_ _)); refine yF ?_ NB197_207.out _; (with_reducible repeat (first | refine yN ?_ _ | refine yD ?_ | refine yA ?_ _)); exact BK197.out⟩, ⟨by (with_reducible repeat (first | refine yN ?_ _ | refine yD ?_ | refine yA ?_ _)); refine yF ?_ NB205_207.out _; (with_reducible repeat (first | refine yN ?_ _ | refine yD ?_ | refine yA ?_ _)); refine yF ?_ NB205_207.out _; (with_reducible repeat (first | refine yN ?_ _ | refine yD ?_ | refine yA ?_ _)); exact BK205.out⟩, ⟨by (with_reducible repeat (first | refine yN ?_ _ | refine yD ?_ | refine yA ?_ _)); refine yP (cs := #[.int .i64 ((rd_T42 l1 x25_2).f0), .string (⟨#[]⟩ : ByteArray)]) ?_ 1 _ rfl; (with_reducible repeat (first | refine yN ?_ _ | refine yD ?_ | refine yA ?_ _)); refine yP (cs := #[.int .i64 0, .string (⟨#[]⟩ : ByteArray)]) ?_ 0 _ rfl; (with_reducible repeat (first | refine yN ?_ _ | refine yD ?_ | refine yA ?_ _)); exact BK207.out⟩, ⟨zH HB.out⟩⟩
          ·rw [if_neg c24] at H
           have c24b0 : (((rd_T42 l1 x25_2).f0) == (-1)) = false := beq_eq_false_iff_ne.mpr c24
           have c24b1 : (((rd_T42 l1 x25_2).f0) != (-1)) = true := bne_iff_ne.mpr c24
           (first | rw [c24b0] | (simp only [i64_w, i32_w]; rw [c24b0]) | skip)
           have H' := aM H
           clear H
           have hnb28 := NB207_197.out
           have hnc28 := NB197_207.out
           have hnb29 := NB207_205.out
           have hnc29 := NB205_207.out
           have hcz30_0 : w20.cell? ⟨gb207, 0, none⟩ = some (.int .i64 0) := yc BK207.out 0
           have hcz30_1 : w20.cell? ⟨gb207, 1, none⟩ = some (.string (⟨#[]⟩ : ByteArray)) := yc BK207.out 1
           have hfz30_0 := yZ BK207.out 0
           have hfz30_1 := yZ BK207.out 1
           go_wp2
           go_meet
           case rel => exact ⟨_, (false), (by first | rfl | (simp; done) | (simp [*]; done)), H', ⟨by have := HJ3.out; have := HK2.out; first | omega | exact Nat.le_refl _⟩, ⟨xH (xM (xF (p := ⟨gb207, 1, none⟩) (xF (p := ⟨gb207, 0, none⟩) (xT p1'.out BK207.out (by decide)) (fun _ hk => hk.2) (.int .i64 ((rd_T42 l1 x25_2).f0))) (fun _ hk => hk.2) (.string ((rd_T42 l1 x25_2).f1))) (fun _ hk => trivial))⟩, ⟨xH (xM (xF (p := ⟨gb207, 1, none⟩) (xF (p := ⟨gb207, 0, none⟩) (xM p2'.out (fun k_ hk => (⟨hk, hk.2⟩ : _ ∧ k_ ≠ gb207))) (fun _ hk => hk.2) (.int .i64 ((rd_T42 l1 x25_2).f0))) (fun _ hk => hk.2) (.string ((rd_T42 l1 x25_2).f1))) (fun _ hk => hk.1.2))⟩, ⟨by (with_reducible repeat (first | refine yN ?_ _ | refine yD ?_ | refine yA ?_ _)); refine yF ?_ NB197_207.out _; (with_reducible repeat (first | refine yN ?_ _ | refine yD ?_ | refine yA ?_ _)); refine yF ?_ NB197_207.out _; (with_reducible repeat (first | refine yN ?_ _ | refine yD ?_ | refine yA ?_ _)); exact BK197.out⟩, ⟨by (with_reducible repeat (first | refine yN ?_ _ | refine yD ?_ | refine yA ?_ _)); refine yF ?_ NB205_207.out _; (with_reducible repeat (first | refine yN ?_ _ | refine yD ?_ | refine yA ?_ _)); refine yF ?_ NB205_207.out _; (with_reducible repeat (first | refine yN ?_ _ | refine yD ?_ | refine yA ?_ _)); exact BK205.out⟩, ⟨by (with_reducible repeat (first | refine yN ?_ _ | refine yD ?_ | refine yA ?_ _)); refine yP (cs := #[.int .i64 ((rd_T42 l1 x25_2).f0), .string (⟨#[]⟩ : ByteArray)]) ?_ 1 _ rfl; (with_reducible repeat (first | refine yN ?_ _ | refine yD ?_ | refine yA ?_ _)); refine yP (cs := #[.int .i64 0, .string (⟨#[]⟩ : ByteArray)]) ?_ 0 _ rfl; (with_reducible repeat (first | refine yN ?_ _ | refine yD ?_ | refine yA ?_ _)); exact BK207.out⟩, ⟨zH HB.out⟩⟩
         case rest =>
          clear HC19
          (try clear c1); (try clear c2); (try clear p2); (try clear q2); (try clear hx2); (try clear c3); (try clear c9); (try clear c12); (try clear c13); (try clear c14); (try clear c16); (try clear c16b0); (try clear c17); (try clear c17b0); (try clear c18); (try clear c18b0); (try clear p20); (try clear q20); (try clear hx20); (try clear c21); (try clear c22); (try clear c24); (try clear c24b0); (try clear c24b1); (try clear c25); (try clear c26); (try clear c28); (try clear c29); (try clear hcz10_0); (try clear hcz10_1); (try clear hcz15_0); (try clear hcz15_1); (try clear hcz23_0); (try clear hcz23_1); (try clear hcz27_0); (try clear hcz27_1); (try clear hcz30_0); (try clear hcz30_1); (try clear hfz10_0); (try clear hfz10_1); (try clear hfz15_0); (try clear hfz15_1); (try clear hfz23_0); (try clear hfz23_1); (try clear hfz27_0); (try clear hfz27_1); (try clear hfz30_0); (try clear hfz30_1); (try clear hx206_0); (try clear hx206_1); (try clear p2); (try clear p206); (try clear q206)
          obtain ⟨kq, x36_18, rfl, HA, HJ18, p1', p2', BK197, BK205, BK207, HB⟩ := hcut
          cases kq with
          | zero => exact absurd HA.out (fun h_ => by change none = some _ at h_; cases h_)
          | succ kj18 =>
           have H := HA.out
           clear HA
           simp only [spec_PlayDevice.j2] at H
           by_cases c31 : x36_18 = true
           ·subst c31
            have H1 : ((spec_FlushDevice.f kj18 x206000_2 x206001_2).bind fun bt208 => (if bt208.2.2 = true then (spec_PlayDevice.l0 kj18 l1 (l1.length : Int) (wrap64 (x25_2 + 1)) bt208.1 bt208.2.1) else (some (([] : List ByteArray), ([] : List (S42)), false)))) = some (r1, r2, r3) := by rw [if_pos rfl] at H; exact H
            clear H
            have H := H1
            clear H1
            replace H := Option.bind_eq_some_iff.mp H
            obtain ⟨⟨t208, t211, t214⟩, A320, H⟩ := H
            replace H : (if t214 = true then (spec_PlayDevice.l0 kj18 l1 (l1.length : Int) (wrap64 (x25_2 + 1)) t208 t211) else (some (([] : List ByteArray), ([] : List (S42)), false))) = some (r1, r2, r3) := H
            have A32 := aM A320
            clear A320
            by_cases c33 : t214 = true
            ·subst c33
             have H1 : (spec_PlayDevice.l0 kj18 l1 (l1.length : Int) (wrap64 (x25_2 + 1)) t208 t211) = some (r1, r2, r3) := by rw [if_pos rfl] at H; exact H
             clear H
             have H := H1
             clear H1
             have H' := aM H
             clear H
             have hnb34 := NB205_197.out
             have hnc34 := NB197_205.out
             have hnb35 := NB205_207.out
             have hnc35 := NB207_205.out
             have hcz36_0 : wc.cell? ⟨gb205, 0, none⟩ = some (u206000) := yc BK205.out 0
             have hcz36_1 : wc.cell? ⟨gb205, 1, none⟩ = some (u206001) := yc BK205.out 1
             have hfz36_0 := yZ BK205.out 0
             have hfz36_1 := yZ BK205.out 1
             obtain ⟨Ao37, co37, eo37⟩ := Kd.R_slice p1'.out
             subst eo37
             obtain ⟨Ao38, co38, eo38⟩ := Kd.R_slice p2'.out
             subst eo38
             go_wp2_with (first | ((with_reducible refine gate_callee (f := 28) rfl ?_); refine goesL_ (some 39) rfl rfl Try.func28 (by kernel_rfl) rfl #[.agg #[.slice Ao37 x206000_2.length co37, .slice Ao38 x206001_2.length co38]] rfl (by (try simp only [List.map_toArray, List.map_cons, List.map_nil]); first | done | rfl | (simp only [List.length_drop, List.length_take]; rfl)) ?_; (with_reducible refine (spec_FlushDevice.calls kj18 _ _ x206000_2 _ _ x206001_2 t208 t211 true _ ?side1 ?side2 ?side3 ?side4 A32.out).mono ?_); (case side1 => repeat (first | exact (Kd.R_reads' p1'.out).2.2 | (with_reducible refine cA ?_ _) | (with_reducible refine cN ?_ _) | (with_reducible refine cD ?_))); (case side2 => exact (Kd.R_reads' p1'.out).2.1); (case side3 => repeat (first | exact (Kd.R_reads' p2'.out).2.2 | (with_reducible refine cA ?_ _) | (with_reducible refine cN ?_ _) | (with_reducible refine cD ?_))); (case side4 => exact (Kd.R_reads' p2'.out).2.1); rintro e w39 ⟨v209, v212, rfl, ho0, ho1, hb⟩; refine ⟨_, rfl, ?_⟩; have HO210 := aM (xL (Kd.R_new' ho0 (Kd.R_lt (xH p1'.out))) (zZ (zH HB.out))); replace p1' := aM (Kd.R_elder' (xH p1'.out) (Kd.R_base ho0) hb); have HO213 := aM (xL (Kd.R_newB (Kd.R_new' ho1 (Kd.R_lt (xH p2'.out))) (g := gb207) (o := .cells #[.int .i64 ((rd_T42 l1 x25_2).f0), .string ((rd_T42 l1 x25_2).f1)] 42 (0, 0)) (yH BK207.out)) (zZ (zH HB.out))); replace p2' := aM (Kd.R_elder' (xH p2'.out) (Kd.R_base ho1) hb); replace BK197 := yK BK197.out hb; replace BK205 := yK BK205.out hb; replace BK207 := yK BK207.out hb; replace HB := aM (zT (zH HB.out) hb); (try clear hb); (try clear ho0); (try clear ho1); obtain ⟨Ao40, co40, eo40⟩ := Kd.R_slice HO210.out; subst eo40; have hcz41_0 : w39.cell? ⟨gb205, 0, none⟩ = some (.slice Ao37 x206000_2.length co37) := yc BK205.out 0; have hcz41_1 : w39.cell? ⟨gb205, 1, none⟩ = some (.slice Ao38 x206001_2.length co38) := yc BK205.out 1; have hfz41_0 := yZ BK205.out 0; have hfz41_1 := yZ BK205.out 1; obtain ⟨Ao42, co42, eo42⟩ := Kd.R_slice HO213.out; subst eo42))
             go_roundg kj18
             case measure => have := HJ3.out; have := HK2.out; have := HJ18.out; omega
             case rel => exact ⟨(wrap64 (x25_2 + 1)), (t208), (t211), (.slice Ao40 t208.length co40), (.slice Ao42 t211.length co42), (by first | rfl | (simp; done) | (simp [*]; done)), H', ⟨by have := HJ3.out; have := HK2.out; have := HJ18.out; omega⟩, ⟨xH (xM (xF (p := ⟨gb205, 1, none⟩) (xF (p := ⟨gb205, 0, none⟩) (xT HO210.out BK205.out (by decide)) (fun _ hk => hk.2) (.slice Ao40 t208.length co40)) (fun _ hk => hk.2) (.slice Ao42 t211.length co42)) (fun _ hk => trivial))⟩, ⟨xH (xM (xF (p := ⟨gb205, 1, none⟩) (xF (p := ⟨gb205, 0, none⟩) (xT HO213.out BK205.out (by decide)) (fun _ hk => hk.2) (.slice Ao40 t208.length co40)) (fun _ hk => hk.2) (.slice Ao42 t211.length co42)) (fun _ hk => trivial))⟩, ⟨by (with_reducible repeat (first | refine yN ?_ _ | refine yD ?_ | refine yA ?_ _)); refine yF ?_ NB197_205.out _; (with_reducible repeat (first | refine yN ?_ _ | refine yD ?_ | refine yA ?_ _)); refine yF ?_ NB197_205.out _; (with_reducible repeat (first | refine yN ?_ _ | refine yD ?_ | refine yA ?_ _)); exact BK197.out⟩, ⟨by (with_reducible repeat (first | refine yN ?_ _ | refine yD ?_ | refine yA ?_ _)); refine yP (cs := #[.slice Ao40 t208.length co40, .slice Ao38 x206001_2.length co38]) ?_ 1 _ rfl; (with_reducible repeat (first | refine yN ?_ _ | refine yD ?_ | refine yA ?_ _)); refine yP (cs := #[.slice Ao37 x206000_2.length co37, .slice Ao38 x206001_2.length co38]) ?_ 0 _ rfl; (with_reducible repeat (first | refine yN ?_ _ | refine yD ?_ | refine yA ?_ _)); exact BK205.out⟩, ⟨zH HB.out⟩⟩
            ·replace c33 := Bool.eq_false_iff.mpr c33
             subst c33
             have H1 : (some (([] : List ByteArray), ([] : List (S42)), false)) = some (r1, r2, r3) := by rw [if_neg (show ¬ (false = true) by decide)] at H; exact H
             clear H
             have H := H1
             clear H1
             simp only [Option.some.injEq, Prod.mk.injEq] at H
             obtain ⟨rfl, rfl, rfl⟩ := H
             have hnb43 := NB205_197.out
             have hnc43 := NB197_205.out
             have hnb44 := NB205_207.out
             have hnc44 := NB207_205.out
             have hcz45_0 : wc.cell? ⟨gb205, 0, none⟩ = some (u206000) := yc BK205.out 0
             have hcz45_1 : wc.cell? ⟨gb205, 1, none⟩ = some (u206001) := yc BK205.out 1
             have hfz45_0 := yZ BK205.out 0
             have hfz45_1 := yZ BK205.out 1
             obtain ⟨Ao46, co46, eo46⟩ := Kd.R_slice p1'.out
             subst eo46
             obtain ⟨Ao47, co47, eo47⟩ := Kd.R_slice p2'.out
             subst eo47
             go_wp2_with (first | ((with_reducible refine gate_callee (f := 28) rfl ?_); refine goesL_ (some 39) rfl rfl Try.func28 (by kernel_rfl) rfl #[.agg #[.slice Ao46 x206000_2.length co46, .slice Ao47 x206001_2.length co47]] rfl (by (try simp only [List.map_toArray, List.map_cons, List.map_nil]); first | done | rfl | (simp only [List.length_drop, List.length_take]; rfl)) ?_; (with_reducible refine (spec_FlushDevice.calls kj18 _ _ x206000_2 _ _ x206001_2 t208 t211 false _ ?side1 ?side2 ?side3 ?side4 A32.out).mono ?_); (case side1 => repeat (first | exact (Kd.R_reads' p1'.out).2.2 | (with_reducible refine cA ?_ _) | (with_reducible refine cN ?_ _) | (with_reducible refine cD ?_))); (case side2 => exact (Kd.R_reads' p1'.out).2.1); (case side3 => repeat (first | exact (Kd.R_reads' p2'.out).2.2 | (with_reducible refine cA ?_ _) | (with_reducible refine cN ?_ _) | (with_reducible refine cD ?_))); (case side4 => exact (Kd.R_reads' p2'.out).2.1); rintro e w48 ⟨v209, v212, rfl, ho0, ho1, hb⟩; refine ⟨_, rfl, ?_⟩; have HO210 := aM (xL (Kd.R_new' ho0 (Kd.R_lt (xH p1'.out))) (zZ (zH HB.out))); replace p1' := aM (Kd.R_elder' (xH p1'.out) (Kd.R_base ho0) hb); have HO213 := aM (xL (Kd.R_newB (Kd.R_new' ho1 (Kd.R_lt (xH p2'.out))) (g := gb207) (o := .cells #[.int .i64 ((rd_T42 l1 x25_2).f0), .string ((rd_T42 l1 x25_2).f1)] 42 (0, 0)) (yH BK207.out)) (zZ (zH HB.out))); replace p2' := aM (Kd.R_elder' (xH p2'.out) (Kd.R_base ho1) hb); replace BK197 := yK BK197.out hb; replace BK205 := yK BK205.out hb; replace BK207 := yK BK207.out hb; replace HB := aM (zT (zH HB.out) hb); (try clear hb); (try clear ho0); (try clear ho1); obtain ⟨Ao49, co49, eo49⟩ := Kd.R_slice HO210.out; subst eo49; have hcz50_0 : w48.cell? ⟨gb205, 0, none⟩ = some (.slice Ao46 x206000_2.length co46) := yc BK205.out 0; have hcz50_1 : w48.cell? ⟨gb205, 1, none⟩ = some (.slice Ao47 x206001_2.length co47) := yc BK205.out 1; have hfz50_0 := yZ BK205.out 0; have hfz50_1 := yZ BK205.out 1; obtain ⟨Ao51, co51, eo51⟩ := Kd.R_slice HO213.out; subst eo51; have hnb52 := NB197_207.out; have hnc52 := NB207_197.out; have hcz53_0 : w48.cell? ⟨gb197, 0, none⟩ = some (.slice none 0 0) := yc BK197.out 0; have hcz53_1 : w48.cell? ⟨gb197, 1, none⟩ = some (.slice none 0 0) := yc BK197.out 1; have hfz53_0 := yZ BK197.out 0; have hfz53_1 := yZ BK197.out 1))
             refine bodyPost_ret (results_ct rfl _ _ gb197 30 #[.slice none 0 0, .slice none 0 0] (0, 0) _ rfl (by (with_reducible repeat (first | refine yN ?_ _ | refine yD ?_ | refine yA ?_ _)); refine yP (cs := #[.slice none 0 0, .slice none 0 0]) ?_ 1 _ rfl; (with_reducible repeat (first | refine yN ?_ _ | refine yD ?_ | refine yA ?_ _)); refine yP (cs := #[.slice none 0 0, .slice none 0 0]) ?_ 0 _ rfl; (with_reducible repeat (first | refine yN ?_ _ | refine yD ?_ | refine yA ?_ _)); refine yF ?_ NB197_205.out _; (with_reducible repeat (first | refine yN ?_ _ | refine yD ?_ | refine yA ?_ _)); refine yF ?_ NB197_205.out _; (with_reducible repeat (first | refine yN ?_ _ | refine yD ?_ | refine yA ?_ _)); exact BK197.out) Try.underlying30 rfl (by kernel_rfl)) rfl ?_
             exact ⟨_, _, by first | rfl | (simp [errW_none, errW_some] <;> rfl) | (simp [*, errW_none, errW_some] <;> rfl), by first | exact Kd.R_nil _ _ _ _ _ | exact Kd.N_nil _ _ _ _ _ | exact Kd.V_nil _ _ _ _ _ | exact Kd.Q_nil _ _ _ _ _ | exact Kd.S_nil _ _ _ _ _, by first | exact Kd.R_nil _ _ _ _ _ | exact Kd.N_nil _ _ _ _ _ | exact Kd.V_nil _ _ _ _ _ | exact Kd.Q_nil _ _ _ _ _ | exact Kd.S_nil _ _ _ _ _, zH HB.out⟩
           ·replace c31 := Bool.eq_false_iff.mpr c31
            subst c31
            have H1 : ((spec_WriteSector.f kj18 x206000_2 x206001_2 ((rd_T42 l1 x25_2).f0) ((rd_T42 l1 x25_2).f1)).bind fun bt215 => (if bt215.2.2 = true then (spec_PlayDevice.l0 kj18 l1 (l1.length : Int) (wrap64 (x25_2 + 1)) bt215.1 bt215.2.1) else (some (([] : List ByteArray), ([] : List (S42)), false)))) = some (r1, r2, r3) := by rw [if_neg (show ¬ (false = true) by decide)] at H; exact H
            clear H
            have H := H1
            clear H1
            replace H := Option.bind_eq_some_iff.mp H
            obtain ⟨⟨t215, t218, t221⟩, A540, H⟩ := H
            replace H : (if t221 = true then (spec_PlayDevice.l0 kj18 l1 (l1.length : Int) (wrap64 (x25_2 + 1)) t215 t218) else (some (([] : List ByteArray), ([] : List (S42)), false))) = some (r1, r2, r3) := H
            have A54 := aM A540
            clear A540
            by_cases c55 : t221 = true
            ·subst c55
             have H1 : (spec_PlayDevice.l0 kj18 l1 (l1.length : Int) (wrap64 (x25_2 + 1)) t215 t218) = some (r1, r2, r3) := by rw [if_pos rfl] at H; exact H
             clear H
             have H := H1
             clear H1
             have H' := aM H
             clear H
             have hnb56 := NB205_197.out
             have hnc56 := NB197_205.out
             have hnb57 := NB205_207.out
             have hnc57 := NB207_205.out
             have hcz58_0 : wc.cell? ⟨gb205, 0, none⟩ = some (u206000) := yc BK205.out 0
             have hcz58_1 : wc.cell? ⟨gb205, 1, none⟩ = some (u206001) := yc BK205.out 1
             have hfz58_0 := yZ BK205.out 0
             have hfz58_1 := yZ BK205.out 1
             have hnb59 := NB207_197.out
             have hnc59 := NB197_207.out
             have hcz60_0 : wc.cell? ⟨gb207, 0, none⟩ = some (.int .i64 ((rd_T42 l1 x25_2).f0)) := yc BK207.out 0
             have hcz60_1 : wc.cell? ⟨gb207, 1, none⟩ = some (.string ((rd_T42 l1 x25_2).f1)) := yc BK207.out 1
             have hfz60_0 := yZ BK207.out 0
             have hfz60_1 := yZ BK207.out 1
             obtain ⟨Ao61, co61, eo61⟩ := Kd.R_slice p1'.out
             subst eo61
             obtain ⟨Ao62, co62, eo62⟩ := Kd.R_slice p2'.out
             subst eo62
             go_wp2_with (first | ((with_reducible refine gate_callee (f := 23) rfl ?_); refine goesL_ (some 45) rfl rfl Try.func23 (by kernel_rfl) rfl #[.agg #[.slice Ao61 x206000_2.length co61, .slice Ao62 x206001_2.length co62], .agg #[.int .i64 ((rd_T42 l1 x25_2).f0), .string ((rd_T42 l1 x25_2).f1)]] rfl (by (try simp only [List.map_toArray, List.map_cons, List.map_nil]); first | done | rfl | (simp only [List.length_drop, List.length_take]; rfl)) ?_; (with_reducible refine (spec_WriteSector.calls kj18 _ _ x206000_2 _ _ x206001_2 ((rd_T42 l1 x25_2).f0) ((rd_T42 l1 x25_2).f1) t215 t218 true _ ?side1 ?side2 ?side3 ?side4 A54.out).mono ?_); (case side1 => repeat (first | exact (Kd.R_reads' p1'.out).2.2 | (with_reducible refine cA ?_ _) | (with_reducible refine cN ?_ _) | (with_reducible refine cD ?_))); (case side2 => exact (Kd.R_reads' p1'.out).2.1); (case side3 => repeat (first | exact (Kd.R_reads' p2'.out).2.2 | (with_reducible refine cA ?_ _) | (with_reducible refine cN ?_ _) | (with_reducible refine cD ?_))); (case side4 => exact (Kd.R_reads' p2'.out).2.1); rintro e w63 ⟨v216, v219, rfl, ho0, ho1, hb⟩; refine ⟨_, rfl, ?_⟩; have HO217 := aM (xL (Kd.R_new' ho0 (Kd.R_lt (xH p1'.out))) (zZ (zH HB.out))); replace p1' := aM (Kd.R_elder' (xH p1'.out) (Kd.R_base ho0) hb); have HO220 := aM (xL (Kd.R_newB (Kd.R_new' ho1 (Kd.R_lt (xH p2'.out))) (g := gb207) (o := .cells #[.int .i64 ((rd_T42 l1 x25_2).f0), .string ((rd_T42 l1 x25_2).f1)] 42 (0, 0)) (yH BK207.out)) (zZ (zH HB.out))); replace p2' := aM (Kd.R_elder' (xH p2'.out) (Kd.R_base ho1) hb); replace BK197 := yK BK197.out hb; replace BK205 := yK BK205.out hb; replace BK207 := yK BK207.out hb; replace HB := aM (zT (zH HB.out) hb); (try clear hb); (try clear ho0); (try clear ho1); obtain ⟨Ao64, co64, eo64⟩ := Kd.R_slice HO217.out; subst eo64; have hcz65_0 : w63.cell? ⟨gb205, 0, none⟩ = some (.slice Ao61 x206000_2.length co61) := yc BK205.out 0; have hcz65_1 : w63.cell? ⟨gb205, 1, none⟩ = some (.slice Ao62 x206001_2.length co62) := yc BK205.out 1; have hfz65_0 := yZ BK205.out 0; have hfz65_1 := yZ BK205.out 1; obtain ⟨Ao66, co66, eo66⟩ := Kd.R_slice HO220.out; subst eo66))
             go_roundg kj18
             case measure => have := HJ3.out; have := HK2.out; have := HJ18.out; omega
             case rel => exact ⟨(wrap64 (x25_2 + 1)), (t215), (t218), (.slice Ao64 t215.length co64), (.slice Ao66 t218.length co66), (by first | rfl | (simp; done) | (simp [*]; done)), H', ⟨by have := HJ3.out; have := HK2.out; have := HJ18.out; omega⟩, ⟨xH (xM (xF (p := ⟨gb205, 1, none⟩) (xF (p := ⟨gb205, 0, none⟩) (xT HO217.out BK205.out (by decide)) (fun _ hk => hk.2) (.slice Ao64 t215.length co64)) (fun _ hk => hk.2) (.slice Ao66 t218.length co66)) (fun _ hk => trivial))⟩, ⟨xH (xM (xF (p := ⟨gb205, 1, none⟩) (xF (p := ⟨gb205, 0, none⟩) (xT HO220.out BK205.out (by decide)) (fun _ hk => hk.2) (.slice Ao64 t215.length co64)) (fun _ hk => hk.2) (.slice Ao66 t218.length co66)) (fun _ hk => trivial))⟩, ⟨by (with_reducible repeat (first | refine yN ?_ _ | refine yD ?_ | refine yA ?_ _)); refine yF ?_ NB197_205.out _; (with_reducible repeat (first | refine yN ?_ _ | refine yD ?_ | refine yA ?_ _)); refine yF ?_ NB197_205.out _; (with_reducible repeat (first | refine yN ?_ _ | refine yD ?_ | refine yA ?_ _)); exact BK197.out⟩, ⟨by (with_reducible repeat (first | refine yN ?_ _ | refine yD ?_ | refine yA ?_ _)); refine yP (cs := #[.slice Ao64 t215.length co64, .slice Ao62 x206001_2.length co62]) ?_ 1 _ rfl; (with_reducible repeat (first | refine yN ?_ _ | refine yD ?_ | refine yA ?_ _)); refine yP (cs := #[.slice Ao61 x206000_2.length co61, .slice Ao62 x206001_2.length co62]) ?_ 0 _ rfl; (with_reducible repeat (first | refine yN ?_ _ | refine yD ?_ | refine yA ?_ _)); exact BK205.out⟩, ⟨zH HB.out⟩⟩
            ·replace c55 := Bool.eq_false_iff.mpr c55
             subst c55
             have H1 : (some (([] : List ByteArray), ([] : List (S42)), false)) = some (r1, r2, r3) := by rw [if_neg (show ¬ (false = true) by decide)] at H; exact H
             clear H
             have H := H1
             clear H1
             simp only [Option.some.injEq, Prod.mk.injEq] at H
             obtain ⟨rfl, rfl, rfl⟩ := H
             have hnb67 := NB205_197.out
             have hnc67 := NB197_205.out
             have hnb68 := NB205_207.out
             have hnc68 := NB207_205.out
             have hcz69_0 : wc.cell? ⟨gb205, 0, none⟩ = some (u206000) := yc BK205.out 0
             have hcz69_1 : wc.cell? ⟨gb205, 1, none⟩ = some (u206001) := yc BK205.out 1
             have hfz69_0 := yZ BK205.out 0
             have hfz69_1 := yZ BK205.out 1
             have hnb70 := NB207_197.out
             have hnc70 := NB197_207.out
             have hcz71_0 : wc.cell? ⟨gb207, 0, none⟩ = some (.int .i64 ((rd_T42 l1 x25_2).f0)) := yc BK207.out 0
             have hcz71_1 : wc.cell? ⟨gb207, 1, none⟩ = some (.string ((rd_T42 l1 x25_2).f1)) := yc BK207.out 1
             have hfz71_0 := yZ BK207.out 0
             have hfz71_1 := yZ BK207.out 1
             obtain ⟨Ao72, co72, eo72⟩ := Kd.R_slice p1'.out
             subst eo72
             obtain ⟨Ao73, co73, eo73⟩ := Kd.R_slice p2'.out
             subst eo73
             go_wp2_with (first | ((with_reducible refine gate_callee (f := 23) rfl ?_); refine goesL_ (some 45) rfl rfl Try.func23 (by kernel_rfl) rfl #[.agg #[.slice Ao72 x206000_2.length co72, .slice Ao73 x206001_2.length co73], .agg #[.int .i64 ((rd_T42 l1 x25_2).f0), .string ((rd_T42 l1 x25_2).f1)]] rfl (by (try simp only [List.map_toArray, List.map_cons, List.map_nil]); first | done | rfl | (simp only [List.length_drop, List.length_take]; rfl)) ?_; (with_reducible refine (spec_WriteSector.calls kj18 _ _ x206000_2 _ _ x206001_2 ((rd_T42 l1 x25_2).f0) ((rd_T42 l1 x25_2).f1) t215 t218 false _ ?side1 ?side2 ?side3 ?side4 A54.out).mono ?_); (case side1 => repeat (first | exact (Kd.R_reads' p1'.out).2.2 | (with_reducible refine cA ?_ _) | (with_reducible refine cN ?_ _) | (with_reducible refine cD ?_))); (case side2 => exact (Kd.R_reads' p1'.out).2.1); (case side3 => repeat (first | exact (Kd.R_reads' p2'.out).2.2 | (with_reducible refine cA ?_ _) | (with_reducible refine cN ?_ _) | (with_reducible refine cD ?_))); (case side4 => exact (Kd.R_reads' p2'.out).2.1); rintro e w74 ⟨v216, v219, rfl, ho0, ho1, hb⟩; refine ⟨_, rfl, ?_⟩; have HO217 := aM (xL (Kd.R_new' ho0 (Kd.R_lt (xH p1'.out))) (zZ (zH HB.out))); replace p1' := aM (Kd.R_elder' (xH p1'.out) (Kd.R_base ho0) hb); have HO220 := aM (xL (Kd.R_newB (Kd.R_new' ho1 (Kd.R_lt (xH p2'.out))) (g := gb207) (o := .cells #[.int .i64 ((rd_T42 l1 x25_2).f0), .string ((rd_T42 l1 x25_2).f1)] 42 (0, 0)) (yH BK207.out)) (zZ (zH HB.out))); replace p2' := aM (Kd.R_elder' (xH p2'.out) (Kd.R_base ho1) hb); replace BK197 := yK BK197.out hb; replace BK205 := yK BK205.out hb; replace BK207 := yK BK207.out hb; replace HB := aM (zT (zH HB.out) hb); (try clear hb); (try clear ho0); (try clear ho1); obtain ⟨Ao75, co75, eo75⟩ := Kd.R_slice HO217.out; subst eo75; have hcz76_0 : w74.cell? ⟨gb205, 0, none⟩ = some (.slice Ao72 x206000_2.length co72) := yc BK205.out 0; have hcz76_1 : w74.cell? ⟨gb205, 1, none⟩ = some (.slice Ao73 x206001_2.length co73) := yc BK205.out 1; have hfz76_0 := yZ BK205.out 0; have hfz76_1 := yZ BK205.out 1; obtain ⟨Ao77, co77, eo77⟩ := Kd.R_slice HO220.out; subst eo77; have hcz78_0 : w74.cell? ⟨gb197, 0, none⟩ = some (.slice none 0 0) := yc BK197.out 0; have hcz78_1 : w74.cell? ⟨gb197, 1, none⟩ = some (.slice none 0 0) := yc BK197.out 1; have hfz78_0 := yZ BK197.out 0; have hfz78_1 := yZ BK197.out 1))
             refine bodyPost_ret (results_ct rfl _ _ gb197 30 #[.slice none 0 0, .slice none 0 0] (0, 0) _ rfl (by (with_reducible repeat (first | refine yN ?_ _ | refine yD ?_ | refine yA ?_ _)); refine yP (cs := #[.slice none 0 0, .slice none 0 0]) ?_ 1 _ rfl; (with_reducible repeat (first | refine yN ?_ _ | refine yD ?_ | refine yA ?_ _)); refine yP (cs := #[.slice none 0 0, .slice none 0 0]) ?_ 0 _ rfl; (with_reducible repeat (first | refine yN ?_ _ | refine yD ?_ | refine yA ?_ _)); refine yF ?_ NB197_205.out _; (with_reducible repeat (first | refine yN ?_ _ | refine yD ?_ | refine yA ?_ _)); refine yF ?_ NB197_205.out _; (with_reducible repeat (first | refine yN ?_ _ | refine yD ?_ | refine yA ?_ _)); exact BK197.out) Try.underlying30 rfl (by kernel_rfl)) rfl ?_
             exact ⟨_, _, by first | rfl | (simp [errW_none, errW_some] <;> rfl) | (simp [*, errW_none, errW_some] <;> rfl), by first | exact Kd.R_nil _ _ _ _ _ | exact Kd.N_nil _ _ _ _ _ | exact Kd.V_nil _ _ _ _ _ | exact Kd.Q_nil _ _ _ _ _ | exact Kd.S_nil _ _ _ _ _, by first | exact Kd.R_nil _ _ _ _ _ | exact Kd.N_nil _ _ _ _ _ | exact Kd.V_nil _ _ _ _ _ | exact Kd.Q_nil _ _ _ _ _ | exact Kd.S_nil _ _ _ _ _, zH HB.out⟩
        ·rw [if_neg c18] at H
         exact absurd H (by simp)
       ·rw [if_neg c17] at H
        exact absurd H (by simp)
      ·rw [if_neg c16] at H
       have c16b0 : decide (x25_2 < (l1.length : Int)) = false := decide_eq_false c16
       clear c16
       simp only [Option.some.injEq, Prod.mk.injEq] at H
       obtain ⟨rfl, rfl, rfl⟩ := H
       have hnb79 := NB205_197.out
       have hnc79 := NB197_205.out
       have hcz80_0 : wr.cell? ⟨gb205, 0, none⟩ = some (u206000) := yc BK205.out 0
       have hcz80_1 : wr.cell? ⟨gb205, 1, none⟩ = some (u206001) := yc BK205.out 1
       have hfz80_0 := yZ BK205.out 0
       have hfz80_1 := yZ BK205.out 1
       obtain ⟨Ao81, co81, eo81⟩ := Kd.R_slice p1'.out
       subst eo81
       have hcz82_0 : wr.cell? ⟨gb197, 0, none⟩ = some (.slice none 0 0) := yc BK197.out 0
       have hcz82_1 : wr.cell? ⟨gb197, 1, none⟩ = some (.slice none 0 0) := yc BK197.out 1
       have hfz82_0 := yZ BK197.out 0
       have hfz82_1 := yZ BK197.out 1
       obtain ⟨Ao83, co83, eo83⟩ := Kd.R_slice p2'.out
       subst eo83
       go_wp2
       refine bodyPost_ret (results_ct rfl _ _ gb197 30 #[.slice Ao81 x206000_2.length co81, .slice Ao83 x206001_2.length co83] (0, 0) _ rfl (by (with_reducible repeat (first | refine yN ?_ _ | refine yD ?_ | refine yA ?_ _)); refine yP (cs := #[.slice Ao81 x206000_2.length co81, .slice none 0 0]) ?_ 1 _ rfl; (with_reducible repeat (first | refine yN ?_ _ | refine yD ?_ | refine yA ?_ _)); refine yP (cs := #[.slice none 0 0, .slice none 0 0]) ?_ 0 _ rfl; (with_reducible repeat (first | refine yN ?_ _ | refine yD ?_ | refine yA ?_ _)); exact BK197.out) Try.underlying30 rfl (by kernel_rfl)) rfl ?_
       exact ⟨_, _, by first | rfl | (simp [errW_none, errW_some] <;> rfl) | (simp [*, errW_none, errW_some] <;> rfl), xH (xM (xF (p := ⟨gb197, 1, none⟩) (xF (p := ⟨gb197, 0, none⟩) (xT p1'.out BK197.out (by decide)) (fun _ hk => hk.2) (.slice Ao81 x206000_2.length co81)) (fun _ hk => hk.2) (.slice Ao83 x206001_2.length co83)) (fun _ hk => trivial)), xH (xM (xF (p := ⟨gb197, 1, none⟩) (xF (p := ⟨gb197, 0, none⟩) (xT p2'.out BK197.out (by decide)) (fun _ hk => hk.2) (.slice Ao81 x206000_2.length co81)) (fun _ hk => hk.2) (.slice Ao83 x206001_2.length co83)) (fun _ hk => trivial)), zH HB.out⟩

/-! ### laws_toWrite: function 24 -/
def laws_toWrite.f (a0_0 : Int) (a0_1 : ByteArray) : Option (Int × ByteArray) := some (a0_0, a0_1)
set_option maxHeartbeats 8000000 in
set_option maxRecDepth 100000 in
theorem laws_toWrite.calls (a0_0 : Int) (a0_1 : ByteArray) (r1 : Int) (r2 : ByteArray) (w : World) (h : laws_toWrite.f a0_0 a0_1 = some (r1, r2)) :
  Calls Try.prog 24 #[.agg #[.int .i64 a0_0, .string a0_1]] w fun e w' => e = .returned (.agg #[.int .i64 r1, .string r2]) ∧ Below w.heap.size w w' := by
 have hu38 := Try.underlying38
 have hu42 := Try.underlying42
 have HB := aM (Below.refl w.heap.size w)
 have H : (some (a0_0, a0_1)) = some (r1, r2) := h
 clear h
 simp only [Option.some.injEq, Prod.mk.injEq] at H
 obtain ⟨rfl, rfl⟩ := H
 go_enter Try.func24, Try.ntmps24
 go_wp2_with (first | ((with_reducible refine gate_dst (N := 1) rfl ?_); refine box_event ?hg (N := 1) ?hd (cs := #[.int .i64 a0_0, .string a0_1]) (t := 38) ?hr ?_; (case hd => rfl); (case hg => rfl); (case hr => first | (go_simp; done) | (go_simp; rfl)); intro gb222 hg w2 hbox hb; have BK222 := aM (hbox); have GW222 := aM ((by rw [hg]; exact (zZ (zH HB.out)) : w.heap.size ≤ gb222)); have GE222 := aM ((by rw [hg]; exact (zZ (zH HB.out)) : w.heap.size ≤ gb222)); replace HB := aM (zT (zH HB.out) hb); clear hb hbox hg) | ((with_reducible refine gate_dst (N := 2) rfl ?_); refine box_event ?hg (N := 2) ?hd (cs := #[.int .i64 0, .string (⟨#[]⟩ : ByteArray)]) (t := 42) ?hr ?_; (case hd => rfl); (case hg => rfl); (case hr => first | (go_simp; done) | (go_simp; rfl)); intro gb223 hg w3 hbox hb; have BK223 := aM (hbox); have GW223 := aM ((by rw [hg]; exact (zZ (zH HB.out)) : w.heap.size ≤ gb223)); have GE223 := aM ((by rw [hg]; exact (zZ (zH HB.out)) : w.heap.size ≤ gb223)); replace HB := aM (zT (zH HB.out) hb); have NB222_223 := nL BK222.out hg; have NB223_222 := nR BK222.out hg; replace BK222 := yK BK222.out hb; clear hb hbox hg) | ((with_reducible refine gate_dst (N := 3) rfl ?_); refine box_event ?hg (N := 3) ?hd (cs := #[.int .i64 0, .string (⟨#[]⟩ : ByteArray)]) (t := 42) ?hr ?_; (case hd => rfl); (case hg => rfl); (case hr => first | (go_simp; done) | (go_simp; rfl)); intro gb224 hg w4 hbox hb; have BK224 := aM (hbox); have GW224 := aM ((by rw [hg]; exact (zZ (zH HB.out)) : w.heap.size ≤ gb224)); have GE224 := aM ((by rw [hg]; exact (zZ (zH HB.out)) : w.heap.size ≤ gb224)); replace HB := aM (zT (zH HB.out) hb); have NB222_224 := nL BK222.out hg; have NB224_222 := nR BK222.out hg; replace BK222 := yK BK222.out hb; have NB223_224 := nL BK223.out hg; have NB224_223 := nR BK223.out hg; replace BK223 := yK BK223.out hb; clear hb hbox hg; have hnb5 := NB222_223.out; have hnc5 := NB223_222.out; have hnb6 := NB222_224.out; have hnc6 := NB224_222.out; have hcz7_0 : w4.cell? ⟨gb222, 0, none⟩ = some (.int .i64 a0_0) := yc BK222.out 0; have hcz7_1 : w4.cell? ⟨gb222, 1, none⟩ = some (.string a0_1) := yc BK222.out 1; have hfz7_0 := yZ BK222.out 0; have hfz7_1 := yZ BK222.out 1; have hnb8 := NB224_223.out; have hnc8 := NB223_224.out; have hcz9_0 : w4.cell? ⟨gb224, 0, none⟩ = some (.int .i64 0) := yc BK224.out 0; have hcz9_1 : w4.cell? ⟨gb224, 1, none⟩ = some (.string (⟨#[]⟩ : ByteArray)) := yc BK224.out 1; have hfz9_0 := yZ BK224.out 0; have hfz9_1 := yZ BK224.out 1; have hcz10_0 : w4.cell? ⟨gb223, 0, none⟩ = some (.int .i64 0) := yc BK223.out 0; have hcz10_1 : w4.cell? ⟨gb223, 1, none⟩ = some (.string (⟨#[]⟩ : ByteArray)) := yc BK223.out 1; have hfz10_0 := yZ BK223.out 0; have hfz10_1 := yZ BK223.out 1))
 refine bodyPost_ret (results_cell_row rfl _ _ gb223 42 #[.int .i64 a0_0, .string a0_1] (0, 0) _ rfl (by (with_reducible repeat (first | refine yN ?_ _ | refine yD ?_ | refine yA ?_ _)); refine yP (cs := #[.int .i64 a0_0, .string (⟨#[]⟩ : ByteArray)]) ?_ 1 _ rfl; (with_reducible repeat (first | refine yN ?_ _ | refine yD ?_ | refine yA ?_ _)); refine yP (cs := #[.int .i64 0, .string (⟨#[]⟩ : ByteArray)]) ?_ 0 _ rfl; (with_reducible repeat (first | refine yN ?_ _ | refine yD ?_ | refine yA ?_ _)); refine yF ?_ NB223_224.out _; (with_reducible repeat (first | refine yN ?_ _ | refine yD ?_ | refine yA ?_ _)); refine yF ?_ NB223_224.out _; (with_reducible repeat (first | refine yN ?_ _ | refine yD ?_ | refine yA ?_ _)); exact BK223.out) Try.underlying42 rfl (by kernel_rfl)) rfl ?_
 exact ⟨by first | rfl | (simp [errW_none, errW_some] <;> rfl) | (simp [*, errW_none, errW_some] <;> rfl), zH HB.out⟩

end Go.Proofs.Ytlhgkbleciokmaa.PFnExactPlayDevice
