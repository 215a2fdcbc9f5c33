/- The walks of FnExactPlayDevice: Go's calls come to what the Lean functions beside them say; no condition. -/
import Derived.Test.YtlhgkbleciokmaaQFnExactPlayDevicex0
import Derived.Test.YtlhgkbleciokmaaQFnExactPlayDevicex6
import Derived.Test.YtlhgkbleciokmaaQFnExactPlayDevicex7
namespace Go.Proofs.Ytlhgkbleciokmaa.PFnExactPlayDevice
open Go.RowKit Go.Proofs.YtlhgkbleciokmaaW.PrintWords Go.Proofs.YtlhgkbleciokmaaW.PrintLast Go.Proofs.YtlhgkbleciokmaaW.PrintMore
attribute [local go_sem] max2_int min2_int max_two min_two max_three min_three max_four min_four   -- for this text's walks alone
set_option linter.unusedVariables false
set_option linter.unusedSimpArgs false
set_option maxRecDepth 100000

/-! ### impl_PlayDevice: function 40 -/
mutual
def impl_PlayDevice.j0 : Nat → List (S42) → Bool → List ByteArray → List (S42) → Option (List ByteArray × (List (S42)) × Bool)
 | 0, _, _, _, _ => none
 | k + 1, x1, x21, x270000, x270001 => if x21 = true then (some (([] : List ByteArray), ([] : List (S42)), false)) else (impl_PlayDevice.l0 k x1 (x1.length : Int) 0 x270000 x270001)
def impl_PlayDevice.l0 : Nat → List (S42) → Int → Int → List ByteArray → List (S42) → Option (List ByteArray × (List (S42)) × Bool)
 | 0, _, _, _, _, _ => none
 | k + 1, x23, x24, x25, x270000, x270001 => if x25 < x24 then (if 0 ≤ x25 then (if x25 < (x23.length : Int) then (if ((rd_T42 x23 x25).f0) = (-1) then (impl_PlayDevice.j2 k x23 x24 x25 (((rd_T42 x23 x25).f1).toList == ([] : List UInt8)) x270000 x270001 ((rd_T42 x23 x25).f0) ((rd_T42 x23 x25).f1)) else (impl_PlayDevice.j2 k x23 x24 x25 false x270000 x270001 ((rd_T42 x23 x25).f0) ((rd_T42 x23 x25).f1))) else (none)) else (none)) else (some (x270000, x270001, true))
def impl_PlayDevice.j2 : Nat → List (S42) → Int → Int → Bool → List ByteArray → List (S42) → Int → ByteArray → Option (List ByteArray × (List (S42)) × Bool)
 | 0, _, _, _, _, _, _, _, _ => none
 | k + 1, x23, x24, x25, x36, x270000, x270001, x272000, x272001 => if x36 = true then ((impl_FlushDevice.f x270000 x270001).bind fun bt272 => (if bt272.2.2 = true then (impl_PlayDevice.l0 k x23 x24 (wrap64 (x25 + 1)) bt272.1 bt272.2.1) else (some (([] : List ByteArray), ([] : List (S42)), false)))) else ((impl_WriteSector.f x270000 x270001 x272000 x272001).bind fun bt279 => (if bt279.2.2 = true then (impl_PlayDevice.l0 k x23 x24 (wrap64 (x25 + 1)) bt279.1 bt279.2.1) else (some (([] : List ByteArray), ([] : List (S42)), false))))
end
def impl_PlayDevice.f (k : Nat) (a0 : Int) (l1 : List (S42)) : Option (List ByteArray × (List (S42)) × Bool) := (impl_NewDevice.f a0).bind fun bt262 => (if bt262.2.2 = true then (impl_PlayDevice.j0 k l1 (decide ((l1.length : Int) > 200)) bt262.1 bt262.2.1) else (impl_PlayDevice.j0 k l1 true bt262.1 bt262.2.1))
theorem impl_PlayDevice.mono_l : ∀ k, (∀ y0 y1 y2 y3, LeO (impl_PlayDevice.j0 k y0 y1 y2 y3) (impl_PlayDevice.j0 (k + 1) y0 y1 y2 y3)) ∧ (∀ y0 y1 y2 y3 y4, LeO (impl_PlayDevice.l0 k y0 y1 y2 y3 y4) (impl_PlayDevice.l0 (k + 1) y0 y1 y2 y3 y4)) ∧ (∀ y0 y1 y2 y3 y4 y5 y6 y7, LeO (impl_PlayDevice.j2 k y0 y1 y2 y3 y4 y5 y6 y7) (impl_PlayDevice.j2 (k + 1) y0 y1 y2 y3 y4 y5 y6 y7))
 | 0 => ⟨fun _ _ _ _ r h => by simp [impl_PlayDevice.j0] at h, fun _ _ _ _ _ r h => by simp [impl_PlayDevice.l0] at h, fun _ _ _ _ _ _ _ _ r h => by simp [impl_PlayDevice.j2] at h⟩
 | k + 1 => by
  obtain ⟨ih0, ih1, ih2⟩ := impl_PlayDevice.mono_l k
  refine ⟨?_, ?_, ?_⟩
  ·intro y0 y1 y2 y3
   unfold impl_PlayDevice.j0
   repeat' first
   | (with_reducible exact ih0 _ _ _ _)
   | (with_reducible exact ih1 _ _ _ _ _)
   | (with_reducible exact ih2 _ _ _ _ _ _ _ _)
   | (with_reducible exact LeO.refl _)
   | (with_reducible exact LeO.none _)
   | (with_reducible refine LeO.ite ?_ ?_)
   | (with_reducible refine LeO.bind ?_ (fun _ => ?_))
   | exact ih0 _ _ _ _
   | exact ih1 _ _ _ _ _
   | exact ih2 _ _ _ _ _ _ _ _
   | exact LeO.none _
   | refine LeO.ite ?_ ?_
   | refine LeO.bind ?_ (fun _ => ?_)
  ·intro y0 y1 y2 y3 y4
   unfold impl_PlayDevice.l0
   repeat' first
   | (with_reducible exact ih0 _ _ _ _)
   | (with_reducible exact ih1 _ _ _ _ _)
   | (with_reducible exact ih2 _ _ _ _ _ _ _ _)
   | (with_reducible exact LeO.refl _)
   | (with_reducible exact LeO.none _)
   | (with_reducible refine LeO.ite ?_ ?_)
   | (with_reducible refine LeO.bind ?_ (fun _ => ?_))
   | exact ih0 _ _ _ _
   | exact ih1 _ _ _ _ _
   | exact ih2 _ _ _ _ _ _ _ _
   | exact LeO.none _
   | refine LeO.ite ?_ ?_
   | refine LeO.bind ?_ (fun _ => ?_)
  ·intro y0 y1 y2 y3 y4 y5 y6 y7
   unfold impl_PlayDevice.j2
   repeat' first
   | (with_reducible exact ih0 _ _ _ _)
   | (with_reducible exact ih1 _ _ _ _ _)
   | (with_reducible exact ih2 _ _ _ _ _ _ _ _)
   | (with_reducible exact LeO.refl _)
   | (with_reducible exact LeO.none _)
   | (with_reducible refine LeO.ite ?_ ?_)
   | (with_reducible refine LeO.bind ?_ (fun _ => ?_))
   | exact ih0 _ _ _ _
   | exact ih1 _ _ _ _ _
   | exact ih2 _ _ _ _ _ _ _ _
   | exact LeO.none _
   | refine LeO.ite ?_ ?_
   | refine LeO.bind ?_ (fun _ => ?_)
theorem impl_PlayDevice.mono : ∀ a0 a1 k, LeO (impl_PlayDevice.f k a0 a1) (impl_PlayDevice.f (k + 1) a0 a1) := by
 intro a0 a1 k
 obtain ⟨ih0, ih1, ih2⟩ := impl_PlayDevice.mono_l k
 unfold impl_PlayDevice.f
 repeat' first
   | (with_reducible exact ih0 _ _ _ _)
   | (with_reducible exact ih1 _ _ _ _ _)
   | (with_reducible exact ih2 _ _ _ _ _ _ _ _)
   | (with_reducible exact LeO.refl _)
   | (with_reducible exact LeO.none _)
   | (with_reducible refine LeO.ite ?_ ?_)
   | (with_reducible refine LeO.bind ?_ (fun _ => ?_))
   | exact ih0 _ _ _ _
   | exact ih1 _ _ _ _ _
   | exact ih2 _ _ _ _ _ _ _ _
   | exact LeO.none _
   | refine LeO.ite ?_ ?_
   | refine LeO.bind ?_ (fun _ => ?_)
set_option maxHeartbeats 8000000 in
set_option maxRecDepth 100000 in
theorem impl_PlayDevice.calls (k : Nat) (a0 : Int) (A1 : Option Addr) (c1 : Nat) (l1 : List (S42)) (r1 : List ByteArray) (r2 : List (S42)) (r3 : Bool) (w : World) (hr1 : Kd.C k42 w A1 l1.length l1) (hc1 : l1.length ≤ c1) (h : impl_PlayDevice.f k a0 l1 = some (r1, r2, r3)) :
  Calls Try.prog 40 #[.int .i64 a0, .slice A1 l1.length c1] w fun e w' => ∃ v0_ v1_ : Value, e = .returned (.tuple #[.agg #[v0_, v1_], .bool r3]) ∧ Kd.R Kd.string 9 w' w.heap.size (fun _ => True) v0_ r1 ∧ Kd.R k42 42 w' w.heap.size (fun _ => True) v1_ r2 ∧ Below w.heap.size w w' := by
 have hu30 := Try.underlying30
 have hu42 := Try.underlying42
 have HR1 := aM hr1
 have HC1 := aM hc1
 clear hr1 hc1
 have HB := aM (Below.refl w.heap.size w)
 have H : ((impl_NewDevice.f a0).bind fun bt262 => (if bt262.2.2 = true then (impl_PlayDevice.j0 k l1 (decide ((l1.length : Int) > 200)) bt262.1 bt262.2.1) else (impl_PlayDevice.j0 k l1 true bt262.1 bt262.2.1))) = some (r1, r2, r3) := h
 clear h
 replace H := Option.bind_eq_some_iff.mp H
 obtain ⟨⟨t262, t265, t268⟩, A30, H⟩ := H
 replace H : (if t268 = true then (impl_PlayDevice.j0 k l1 (decide ((l1.length : Int) > 200)) t262 t265) else (impl_PlayDevice.j0 k l1 true t262 t265)) = some (r1, r2, r3) := H
 have A3 := aM A30
 clear A30
 have HC4 := aM H
 clear H
 go_enter Try.func40, Try.ntmps40
 go_upto_region 2 with (first | ((with_reducible refine gate_dst (N := 4) rfl ?_); (try (refine gate_guard (by rfl) ?_; dsimp only)); refine box_event ?hg (N := 4) ?hd (cs := #[.slice none 0 0, .slice none 0 0]) (t := 30) ?hr ?_; (case hd => rfl); (case hg => rfl); (case hr => first | (go_simp; done) | (go_simp; rfl)); intro gb261 hg w5 hbox hb; have BK261 := aM (hbox); have GW261 := aM ((by rw [hg]; exact (zZ (zH HB.out)) : w.heap.size ≤ gb261)); have GE261 := aM ((by rw [hg]; exact (zZ (zH HB.out)) : w.heap.size ≤ gb261)); replace HB := aM (zT (zH HB.out) hb); clear hb hbox hg) | ((with_reducible refine gate_callee (f := 36) rfl ?_); refine goesL_ (some 12) rfl rfl Try.func36 (by kernel_rfl) rfl #[.int .i64 a0] rfl (by (try simp only [List.map_toArray, List.map_cons, List.map_nil]); first | done | rfl | (simp only [List.length_drop, List.length_take]; rfl)) ?_; (with_reducible refine (impl_NewDevice.calls a0 t262 t265 t268 _ A3.out).mono ?_); rintro e w6 ⟨v263, v266, rfl, ho0, ho1, hb⟩; refine ⟨_, rfl, ?_⟩; have HO264 := aM (xL ho0 (zZ (zH HB.out))); have HO267 := aM (xL ho1 (zZ (zH HB.out))); replace BK261 := yK BK261.out hb; replace HB := aM (zT (zH HB.out) hb); (try clear hb); (try clear ho0); (try clear ho1)) | ((with_reducible refine gate_dst (N := 6) rfl ?_); (try (refine gate_guard (by rfl) ?_; dsimp only)); refine box_event ?hg (N := 6) ?hd (cs := #[.slice none 0 0, .slice none 0 0]) (t := 30) ?hr ?_; (case hd => rfl); (case hg => rfl); (case hr => first | (go_simp; done) | (go_simp; rfl)); intro gb269 hg w7 hbox hb; replace HO264 := xK HO264.out hb; replace HO267 := xK HO267.out hb; have BK269 := aM (hbox); have GW269 := aM ((by rw [hg]; exact (zZ (zH HB.out)) : w.heap.size ≤ gb269)); have GE269 := aM ((by rw [hg]; exact (zZ (zH HB.out)) : w.heap.size ≤ gb269)); replace HB := aM (zT (zH HB.out) hb); have NB261_269 := nL BK261.out hg; have NB269_261 := nR BK261.out hg; replace BK261 := yK BK261.out hb; clear hb hbox hg; obtain ⟨Ao8, co8, eo8⟩ := Kd.R_slice HO264.out; subst eo8; have hnb9 := NB269_261.out; have hnc9 := NB261_269.out; have hcz10_0 : w7.cell? ⟨gb269, 0, none⟩ = some (.slice none 0 0) := yc BK269.out 0; have hcz10_1 : w7.cell? ⟨gb269, 1, none⟩ = some (.slice none 0 0) := yc BK269.out 1; have hfz10_0 := yZ BK269.out 0; have hfz10_1 := yZ BK269.out 1; obtain ⟨Ao11, co11, eo11⟩ := Kd.R_slice HO267.out; subst eo11))
 (try simp only [Act.put, qA, qB, qC])
 go_cut [21] (fun v21 wc => ∃ (kq : Nat) (x21_3 : Bool), v21 = .bool x21_3 ∧ Aside0 (impl_PlayDevice.j0 kq l1 x21_3 t262 t265 = some (r1, r2, r3)) ∧ Aside0 (kq ≤ k) ∧ Aside0 (Kd.R Kd.string 9 wc w.heap.size (fun _ => True) (.slice Ao8 t262.length co8) t262) ∧ Aside0 (Kd.R k42 42 wc w.heap.size (fun _ => True) (.slice Ao11 t265.length co11) t265) ∧ Aside0 (wc.heap[gb261]? = some (.cells #[(.slice none 0 0), (.slice none 0 0)] 30 (0, 0))) ∧ Aside0 (wc.heap[gb269]? = some (.cells #[(.slice Ao8 t262.length co8), (.slice Ao11 t265.length co11)] 30 (0, 0))) ∧ Aside0 (Below w.heap.size w wc))
 case first =>
  have H := HC4.out
  clear HC4
  by_cases c12 : t268 = true
  ·subst c12
   have H1 : (impl_PlayDevice.j0 k l1 (decide ((l1.length : Int) > 200)) t262 t265) = some (r1, r2, r3) := by rw [if_pos rfl] at H; exact H
   clear H
   have H := H1
   clear H1
   have H' := aM H
   clear H
   go_wp2
   go_meet
   case rel => exact ⟨_, (decide ((l1.length : Int) > 200)), (by first | rfl | (simp; done) | (simp [*]; done)), H', ⟨by first | omega | exact Nat.le_refl _⟩, ⟨xH (xM (xF (p := ⟨gb269, 1, none⟩) (xF (p := ⟨gb269, 0, none⟩) (xT HO264.out BK269.out (by decide)) (fun _ hk => hk.2) (.slice Ao8 t262.length co8)) (fun _ hk => hk.2) (.slice Ao11 t265.length co11)) (fun _ hk => trivial))⟩, ⟨xH (xM (xF (p := ⟨gb269, 1, none⟩) (xF (p := ⟨gb269, 0, none⟩) (xT HO267.out BK269.out (by decide)) (fun _ hk => hk.2) (.slice Ao8 t262.length co8)) (fun _ hk => hk.2) (.slice Ao11 t265.length co11)) (fun _ hk => trivial))⟩, ⟨by (with_reducible repeat (first | refine yN ?_ _ | refine yD ?_ | refine yA ?_ _)); refine yF ?_ NB261_269.out _; (with_reducible repeat (first | refine yN ?_ _ | refine yD ?_ | refine yA ?_ _)); refine yF ?_ NB261_269.out _; (with_reducible repeat (first | refine yN ?_ _ | refine yD ?_ | refine yA ?_ _)); exact BK261.out⟩, ⟨by (with_reducible repeat (first | refine yN ?_ _ | refine yD ?_ | refine yA ?_ _)); refine yP (cs := #[.slice Ao8 t262.length co8, .slice none 0 0]) ?_ 1 _ rfl; (with_reducible repeat (first | refine yN ?_ _ | refine yD ?_ | refine yA ?_ _)); refine yP (cs := #[.slice none 0 0, .slice none 0 0]) ?_ 0 _ rfl; (with_reducible repeat (first | refine yN ?_ _ | refine yD ?_ | refine yA ?_ _)); exact BK269.out⟩, ⟨zH HB.out⟩⟩
  ·replace c12 := Bool.eq_false_iff.mpr c12
   subst c12
   have H1 : (impl_PlayDevice.j0 k l1 true t262 t265) = some (r1, r2, r3) := by rw [if_neg (show ¬ (false = true) by decide)] at H; exact H
   clear H
   have H := H1
   clear H1
   have H' := aM H
   clear H
   go_wp2
   go_meet
   case rel => exact ⟨_, (true), (by first | rfl | (simp; done) | (simp [*]; done)), H', ⟨by first | omega | exact Nat.le_refl _⟩, ⟨xH (xM (xF (p := ⟨gb269, 1, none⟩) (xF (p := ⟨gb269, 0, none⟩) (xT HO264.out BK269.out (by decide)) (fun _ hk => hk.2) (.slice Ao8 t262.length co8)) (fun _ hk => hk.2) (.slice Ao11 t265.length co11)) (fun _ hk => trivial))⟩, ⟨xH (xM (xF (p := ⟨gb269, 1, none⟩) (xF (p := ⟨gb269, 0, none⟩) (xT HO267.out BK269.out (by decide)) (fun _ hk => hk.2) (.slice Ao8 t262.length co8)) (fun _ hk => hk.2) (.slice Ao11 t265.length co11)) (fun _ hk => trivial))⟩, ⟨by (with_reducible repeat (first | refine yN ?_ _ | refine yD ?_ | refine yA ?_ _)); refine yF ?_ NB261_269.out _; (with_reducible repeat (first | refine yN ?_ _ | refine yD ?_ | refine yA ?_ _)); refine yF ?_ NB261_269.out _; (with_reducible repeat (first | refine yN ?_ _ | refine yD ?_ | refine yA ?_ _)); exact BK261.out⟩, ⟨by (with_reducible repeat (first | refine yN ?_ _ | refine yD ?_ | refine yA ?_ _)); refine yP (cs := #[.slice Ao8 t262.length co8, .slice none 0 0]) ?_ 1 _ rfl; (with_reducible repeat (first | refine yN ?_ _ | refine yD ?_ | refine yA ?_ _)); refine yP (cs := #[.slice none 0 0, .slice none 0 0]) ?_ 0 _ rfl; (with_reducible repeat (first | refine yN ?_ _ | refine yD ?_ | refine yA ?_ _)); exact BK269.out⟩, ⟨zH HB.out⟩⟩
 case rest =>
  clear HC4
  (try clear c1); (try clear p2); (try clear c3); (try clear c4); (try clear c9); (try clear c12); (try clear hcz10_0); (try clear hcz10_1); (try clear hfz10_0); (try clear hfz10_1)
  obtain ⟨kq, x21_3, rfl, HA, HJ3, p0', p1', BK261, BK269, HB⟩ := hcut
  cases kq with
  | zero => exact absurd HA.out (fun h_ => by change none = some _ at h_; cases h_)
  | succ kj3 =>
   have H := HA.out
   clear HA
   simp only [impl_PlayDevice.j0] at H
   by_cases c13 : x21_3 = true
   ·subst c13
    have H1 : (some (([] : List ByteArray), ([] : List (S42)), false)) = some (r1, r2, r3) := by rw [if_pos rfl] at H; exact H
    clear H
    have H := H1
    clear H1
    simp only [Option.some.injEq, Prod.mk.injEq] at H
    obtain ⟨rfl, rfl, rfl⟩ := H
    have hnb14 := NB261_269.out
    have hnc14 := NB269_261.out
    have hcz15_0 : wc.cell? ⟨gb261, 0, none⟩ = some (.slice none 0 0) := yc BK261.out 0
    have hcz15_1 : wc.cell? ⟨gb261, 1, none⟩ = some (.slice none 0 0) := yc BK261.out 1
    have hfz15_0 := yZ BK261.out 0
    have hfz15_1 := yZ BK261.out 1
    go_wp2
    refine bodyPost_ret (results_ct rfl _ _ gb261 30 #[.slice none 0 0, .slice none 0 0] (0, 0) _ rfl (by (with_reducible repeat (first | refine yN ?_ _ | refine yD ?_ | refine yA ?_ _)); refine yP (cs := #[.slice none 0 0, .slice none 0 0]) ?_ 1 _ rfl; (with_reducible repeat (first | refine yN ?_ _ | refine yD ?_ | refine yA ?_ _)); refine yP (cs := #[.slice none 0 0, .slice none 0 0]) ?_ 0 _ rfl; (with_reducible repeat (first | refine yN ?_ _ | refine yD ?_ | refine yA ?_ _)); exact BK261.out) Try.underlying30 rfl (by kernel_rfl)) rfl ?_
    exact ⟨_, _, by first | rfl | (simp [errW_none, errW_some] <;> rfl) | (simp [*, errW_none, errW_some] <;> rfl), by first | exact Kd.R_nil _ _ _ _ _ | exact Kd.N_nil _ _ _ _ _ | exact Kd.V_nil _ _ _ _ _ | exact Kd.Q_nil _ _ _ _ _ | exact Kd.S_nil _ _ _ _ _, by first | exact Kd.R_nil _ _ _ _ _ | exact Kd.N_nil _ _ _ _ _ | exact Kd.V_nil _ _ _ _ _ | exact Kd.Q_nil _ _ _ _ _ | exact Kd.S_nil _ _ _ _ _, zH HB.out⟩
   ·replace c13 := Bool.eq_false_iff.mpr c13
    subst c13
    have H1 : (impl_PlayDevice.l0 kj3 l1 (l1.length : Int) 0 t262 t265) = some (r1, r2, r3) := by rw [if_neg (show ¬ (false = true) by decide)] at H; exact H
    clear H
    have H := H1
    clear H1
    have H' := aM H
    clear H
    go_wp2
    go_loopg [25] kj3 (fun kq v25 w' => ∃ (x25_2 : Int) (x270000_2 : List ByteArray) (x270001_2 : List (S42)) (u270000 : Value) (u270001 : Value), v25 = .int .i64 x25_2 ∧ Aside0 (impl_PlayDevice.l0 kq l1 (l1.length : Int) x25_2 x270000_2 x270001_2 = some (r1, r2, r3)) ∧ Aside0 (kq ≤ kj3) ∧ Aside0 (Kd.R Kd.string 9 w' w.heap.size (fun _ => True) u270000 x270000_2) ∧ Aside0 (Kd.R k42 42 w' w.heap.size (fun _ => True) u270001 x270001_2) ∧ Aside0 (w'.heap[gb261]? = some (.cells #[(.slice none 0 0), (.slice none 0 0)] 30 (0, 0))) ∧ Aside0 (w'.heap[gb269]? = some (.cells #[u270000, u270001] 30 (0, 0))) ∧ Aside0 (Below w.heap.size w w'))
    case atStart => exact ⟨(0), (t262), (t265), (.slice Ao8 t262.length co8), (.slice Ao11 t265.length co11), (by first | rfl | (simp; done) | (simp [*]; done)), H', ⟨Nat.le_refl _⟩, ⟨xH p0'.out⟩, ⟨xH p1'.out⟩, ⟨yH BK261.out⟩, ⟨yH BK269.out⟩, ⟨zH HB.out⟩⟩
    case round =>
     clear H'
     (try clear c1); (try clear p2); (try clear c3); (try clear c4); (try clear c9); (try clear c12); (try clear c13); (try clear c14); (try clear hcz10_0); (try clear hcz10_1); (try clear hcz15_0); (try clear hcz15_1); (try clear hfz10_0); (try clear hfz10_1); (try clear hfz15_0); (try clear hfz15_1); (try clear p2)
     obtain ⟨x25_2, x270000_2, x270001_2, u270000, u270001, rfl, HA, HK2, p0', p1', BK261, BK269, HB⟩ := hrel
     cases gk with
     | zero => exact absurd HA.out (fun h_ => by change none = some _ at h_; cases h_)
     | succ k2 =>
      have H := HA.out
      clear HA
      simp only [impl_PlayDevice.l0] at H
      by_cases c16 : x25_2 < (l1.length : Int)
      ·rw [if_pos c16] at H
       have c16b0 : decide (x25_2 < (l1.length : Int)) = true := decide_eq_true c16
       clear c16
       by_cases c17 : 0 ≤ x25_2
       ·rw [if_pos c17] at H
        have c17b0 : decide (0 ≤ x25_2) = true := decide_eq_true c17
        clear c17
        by_cases c18 : x25_2 < (l1.length : Int)
        ·rw [if_pos c18] at H
         have c18b0 : decide (x25_2 < (l1.length : Int)) = true := decide_eq_true c18
         clear c18
         have HC19 := aM H
         clear H
         have p270 : 0 ≤ (x25_2 : Int) := of_decide_eq_true (by first | (with_reducible assumption) | assumption)
         have q270 : x25_2 < (l1.length : Int) := of_decide_eq_true (by first | (with_reducible assumption) | assumption)
         obtain ⟨ad270, e270, hx270_0, hx270_1⟩ := at_T42 HR1.out x25_2 p270 q270
         cases e270
         replace hx270_0 := (HB.out.cell (World.block_lt_of_cell? w _ hx270_0)).trans hx270_0
         replace hx270_1 := (HB.out.cell (World.block_lt_of_cell? w _ hx270_1)).trans hx270_1
         replace p270 := eq_true p270
         replace q270 := eq_true q270
         go_upto_region 7 with (first | ((with_reducible refine gate_dst (N := 9) rfl ?_); (try (refine gate_guard (by rfl) ?_; dsimp only)); refine box_event ?hg (N := 9) ?hd (cs := #[.int .i64 0, .string (⟨#[]⟩ : ByteArray)]) (t := 42) ?hr ?_; (case hd => rfl); (case hg => rfl); (case hr => first | (go_simp; done) | (go_simp; rfl)); intro gb271 hg w20 hbox hb; replace p0' := xK p0'.out hb; replace p1' := aM (xB (Kd.R_elderB (xH p1'.out) gb271 (Nat.le_of_eq hg.symm)) hb); have BK271 := aM (hbox); have GW271 := aM ((by rw [hg]; exact (zZ (zH HB.out)) : w.heap.size ≤ gb271)); have GE271 := aM ((by rw [hg]; exact (zZ (zH HB.out)) : w.heap.size ≤ gb271)); replace HB := aM (zT (zH HB.out) hb); have NB261_271 := nL BK261.out hg; have NB271_261 := nR BK261.out hg; replace BK261 := yK BK261.out hb; have NB269_271 := nL BK269.out hg; have NB271_269 := nR BK269.out hg; replace BK269 := yK BK269.out hb; clear hb hbox hg; have hnb21 := NB271_261.out; have hnc21 := NB261_271.out; have hnb22 := NB271_269.out; have hnc22 := NB269_271.out; have hcz23_0 : w20.cell? ⟨gb271, 0, none⟩ = some (.int .i64 0) := yc BK271.out 0; have hcz23_1 : w20.cell? ⟨gb271, 1, none⟩ = some (.string (⟨#[]⟩ : ByteArray)) := yc BK271.out 1; have hfz23_0 := yZ BK271.out 0; have hfz23_1 := yZ BK271.out 1))
         (try simp only [Act.put, qA, qB, qC])
         go_cut [36] (fun v36 wc => ∃ (kq : Nat) (x36_18 : Bool), v36 = .bool x36_18 ∧ Aside0 (impl_PlayDevice.j2 kq l1 (l1.length : Int) x25_2 x36_18 x270000_2 x270001_2 ((rd_T42 l1 x25_2).f0) ((rd_T42 l1 x25_2).f1) = some (r1, r2, r3)) ∧ Aside0 (kq ≤ k2) ∧ Aside0 (Kd.R Kd.string 9 wc w.heap.size (fun _ => True) u270000 x270000_2) ∧ Aside0 (Kd.R k42 42 wc w.heap.size (fun k_ => k_ ≠ gb271) u270001 x270001_2) ∧ Aside0 (wc.heap[gb261]? = some (.cells #[(.slice none 0 0), (.slice none 0 0)] 30 (0, 0))) ∧ Aside0 (wc.heap[gb269]? = some (.cells #[u270000, u270001] 30 (0, 0))) ∧ Aside0 (wc.heap[gb271]? = some (.cells #[.int .i64 ((rd_T42 l1 x25_2).f0), .string ((rd_T42 l1 x25_2).f1)] 42 (0, 0))) ∧ Aside0 (Below w.heap.size w wc))
         case first =>
          have H := HC19.out
          clear HC19
          by_cases c24 : ((rd_T42 l1 x25_2).f0) = (-1)
          ·rw [if_pos c24] at H
           have c24b0 : (((rd_T42 l1 x25_2).f0) == (-1)) = true := beq_iff_eq.mpr c24
           have c24b1 : (((rd_T42 l1 x25_2).f0) != (-1)) = false := bne_eq_false_iff_eq.mpr c24
           clear c24
           (first | rw [c24b0] | (simp only [i64_w, i32_w]; rw [c24b0]) | skip)
           have H' := aM H
           clear H
           have hnb25 := NB271_261.out
           have hnc25 := NB261_271.out
           have hnb26 := NB271_269.out
           have hnc26 := NB269_271.out
           have hcz27_0 : w20.cell? ⟨gb271, 0, none⟩ = some (.int .i64 0) := yc BK271.out 0
           have hcz27_1 : w20.cell? ⟨gb271, 1, none⟩ = some (.string (⟨#[]⟩ : ByteArray)) := yc BK271.out 1
           have hfz27_0 := yZ BK271.out 0
           have hfz27_1 := yZ BK271.out 1
           go_wp2
           go_meet
           case rel => exact ⟨_, ((((rd_T42 l1 x25_2).f1).toList == ([] : List UInt8))), (by first | rfl | (simp; done) | (simp [*]; done)), H', ⟨by have := HJ3.out; have := HK2.out; first | omega | exact Nat.le_refl _⟩, ⟨xH (xM (xF (p := ⟨gb271, 1, none⟩) (xF (p := ⟨gb271, 0, none⟩) (xT p0'.out BK271.out (by decide)) (fun _ hk => hk.2) (.int .i64 ((rd_T42 l1 x25_2).f0))) (fun _ hk => hk.2) (.string ((rd_T42 l1 x25_2).f1))) (fun _ hk => trivial))⟩, ⟨xH (xM (xF (p := ⟨gb271, 1, none⟩) (xF (p := ⟨gb271, 0, none⟩) (xM p1'.out (fun k_ hk => (⟨hk, hk.2⟩ : _ ∧ k_ ≠ gb271))) (fun _ hk => hk.2) (.int .i64 ((rd_T42 l1 x25_2).f0))) (fun _ hk => hk.2) (.string ((rd_T42 l1 x25_2).f1))) (fun _ hk => hk.1.2))⟩, ⟨by (with_reducible repeat (first | refine yN ?_ _ | refine yD ?_ | refine yA ?_ _)); refine yF ?_ NB261_271.out _; (with_reducible repeat (first | refine yN ?_ _ | refine yD ?_ | refine yA ?_ _)); refine yF ?_ NB261_271.out _; (with_reducible repeat (first | refine yN ?_ _ | refine yD ?_ | refine yA ?_ _)); exact BK261.out⟩, ⟨by (with_reducible repeat (first | refine yN ?_ _ | refine yD ?_ | refine yA ?_ _)); refine yF ?_ NB269_271.out _; (with_reducible repeat (first | refine yN ?_ _ | refine yD ?_ | refine yA ?_ _)); refine yF ?_ NB269_271.out _; (with_reducible repeat (first | refine yN ?_ _ | refine yD ?_ | refine yA ?_ _)); exact BK269.out⟩, ⟨by (with_reducible repeat (first | refine yN ?_ _ | refine yD ?_ | refine yA ?_ _)); refine yP (cs := #[.int .i64 ((rd_T42 l1 x25_2).f0), .string (⟨#[]⟩ : ByteArray)]) ?_ 1 _ rfl; (with_reducible repeat (first | refine yN ?_ _ | refine yD ?_ | refine yA ?_ _)); refine yP (cs := #[.int .i64 0, .string (⟨#[]⟩ : ByteArray)]) ?_ 0 _ rfl; (with_reducible repeat (first | refine yN ?_ _ | refine yD ?_ | refine yA ?_ _)); exact BK271.out⟩, ⟨zH HB.out⟩⟩
          ·rw [if_neg c24] at H
           have c24b0 : (((rd_T42 l1 x25_2).f0) == (-1)) = false := beq_eq_false_iff_ne.mpr c24
           have c24b1 : (((rd_T42 l1 x25_2).f0) != (-1)) = true := bne_iff_ne.mpr c24
           (first | rw [c24b0] | (simp only [i64_w, i32_w]; rw [c24b0]) | skip)
           have H' := aM H
           clear H
           have hnb28 := NB271_261.out
           have hnc28 := NB261_271.out
           have hnb29 := NB271_269.out
           have hnc29 := NB269_271.out
           have hcz30_0 : w20.cell? ⟨gb271, 0, none⟩ = some (.int .i64 0) := yc BK271.out 0
           have hcz30_1 : w20.cell? ⟨gb271, 1, none⟩ = some (.string (⟨#[]⟩ : ByteArray)) := yc BK271.out 1
           have hfz30_0 := yZ BK271.out 0
           have hfz30_1 := yZ BK271.out 1
           go_wp2
           go_meet
           case rel => exact ⟨_, (false), (by first | rfl | (simp; done) | (simp [*]; done)), H', ⟨by have := HJ3.out; have := HK2.out; first | omega | exact Nat.le_refl _⟩, ⟨xH (xM (xF (p := ⟨gb271, 1, none⟩) (xF (p := ⟨gb271, 0, none⟩) (xT p0'.out BK271.out (by decide)) (fun _ hk => hk.2) (.int .i64 ((rd_T42 l1 x25_2).f0))) (fun _ hk => hk.2) (.string ((rd_T42 l1 x25_2).f1))) (fun _ hk => trivial))⟩, ⟨xH (xM (xF (p := ⟨gb271, 1, none⟩) (xF (p := ⟨gb271, 0, none⟩) (xM p1'.out (fun k_ hk => (⟨hk, hk.2⟩ : _ ∧ k_ ≠ gb271))) (fun _ hk => hk.2) (.int .i64 ((rd_T42 l1 x25_2).f0))) (fun _ hk => hk.2) (.string ((rd_T42 l1 x25_2).f1))) (fun _ hk => hk.1.2))⟩, ⟨by (with_reducible repeat (first | refine yN ?_ _ | refine yD ?_ | refine yA ?_ _)); refine yF ?_ NB261_271.out _; (with_reducible repeat (first | refine yN ?_ _ | refine yD ?_ | refine yA ?_ _)); refine yF ?_ NB261_271.out _; (with_reducible repeat (first | refine yN ?_ _ | refine yD ?_ | refine yA ?_ _)); exact BK261.out⟩, ⟨by (with_reducible repeat (first | refine yN ?_ _ | refine yD ?_ | refine yA ?_ _)); refine yF ?_ NB269_271.out _; (with_reducible repeat (first | refine yN ?_ _ | refine yD ?_ | refine yA ?_ _)); refine yF ?_ NB269_271.out _; (with_reducible repeat (first | refine yN ?_ _ | refine yD ?_ | refine yA ?_ _)); exact BK269.out⟩, ⟨by (with_reducible repeat (first | refine yN ?_ _ | refine yD ?_ | refine yA ?_ _)); refine yP (cs := #[.int .i64 ((rd_T42 l1 x25_2).f0), .string (⟨#[]⟩ : ByteArray)]) ?_ 1 _ rfl; (with_reducible repeat (first | refine yN ?_ _ | refine yD ?_ | refine yA ?_ _)); refine yP (cs := #[.int .i64 0, .string (⟨#[]⟩ : ByteArray)]) ?_ 0 _ rfl; (with_reducible repeat (first | refine yN ?_ _ | refine yD ?_ | refine yA ?_ _)); exact BK271.out⟩, ⟨zH HB.out⟩⟩
         case rest =>
          clear HC19
          (try clear c1); (try clear c2); (try clear p2); (try clear q2); (try clear hx2); (try clear c3); (try clear c4); (try clear c9); (try clear c12); (try clear c13); (try clear c14); (try clear c16); (try clear c16b0); (try clear c17); (try clear c17b0); (try clear c18); (try clear c18b0); (try clear c21); (try clear c22); (try clear c24); (try clear c24b0); (try clear c24b1); (try clear c25); (try clear c26); (try clear p27); (try clear q27); (try clear hx27); (try clear c28); (try clear c29); (try clear hcz10_0); (try clear hcz10_1); (try clear hcz15_0); (try clear hcz15_1); (try clear hcz23_0); (try clear hcz23_1); (try clear hcz27_0); (try clear hcz27_1); (try clear hcz30_0); (try clear hcz30_1); (try clear hfz10_0); (try clear hfz10_1); (try clear hfz15_0); (try clear hfz15_1); (try clear hfz23_0); (try clear hfz23_1); (try clear hfz27_0); (try clear hfz27_1); (try clear hfz30_0); (try clear hfz30_1); (try clear hx270_0); (try clear hx270_1); (try clear p2); (try clear p270); (try clear q270)
          obtain ⟨kq, x36_18, rfl, HA, HJ18, p0', p1', BK261, BK269, BK271, HB⟩ := hcut
          cases kq with
          | zero => exact absurd HA.out (fun h_ => by change none = some _ at h_; cases h_)
          | succ kj18 =>
           have H := HA.out
           clear HA
           simp only [impl_PlayDevice.j2] at H
           by_cases c31 : x36_18 = true
           ·subst c31
            have H1 : ((impl_FlushDevice.f x270000_2 x270001_2).bind fun bt272 => (if bt272.2.2 = true then (impl_PlayDevice.l0 kj18 l1 (l1.length : Int) (wrap64 (x25_2 + 1)) bt272.1 bt272.2.1) else (some (([] : List ByteArray), ([] : List (S42)), false)))) = some (r1, r2, r3) := by rw [if_pos rfl] at H; exact H
            clear H
            have H := H1
            clear H1
            replace H := Option.bind_eq_some_iff.mp H
            obtain ⟨⟨t272, t275, t278⟩, A320, H⟩ := H
            replace H : (if t278 = true then (impl_PlayDevice.l0 kj18 l1 (l1.length : Int) (wrap64 (x25_2 + 1)) t272 t275) else (some (([] : List ByteArray), ([] : List (S42)), false))) = some (r1, r2, r3) := H
            have A32 := aM A320
            clear A320
            by_cases c33 : t278 = true
            ·subst c33
             have H1 : (impl_PlayDevice.l0 kj18 l1 (l1.length : Int) (wrap64 (x25_2 + 1)) t272 t275) = some (r1, r2, r3) := by rw [if_pos rfl] at H; exact H
             clear H
             have H := H1
             clear H1
             have H' := aM H
             clear H
             have hnb34 := NB269_261.out
             have hnc34 := NB261_269.out
             have hnb35 := NB269_271.out
             have hnc35 := NB271_269.out
             have hcz36_0 : wc.cell? ⟨gb269, 0, none⟩ = some (u270000) := yc BK269.out 0
             have hcz36_1 : wc.cell? ⟨gb269, 1, none⟩ = some (u270001) := yc BK269.out 1
             have hfz36_0 := yZ BK269.out 0
             have hfz36_1 := yZ BK269.out 1
             obtain ⟨Ao37, co37, eo37⟩ := Kd.R_slice p0'.out
             subst eo37
             obtain ⟨Ao38, co38, eo38⟩ := Kd.R_slice p1'.out
             subst eo38
             go_wp2_with (first | ((with_reducible refine gate_callee (f := 29) rfl ?_); refine goesL_ (some 39) rfl rfl Try.func29 (by kernel_rfl) rfl #[.agg #[.slice Ao37 x270000_2.length co37, .slice Ao38 x270001_2.length co38]] rfl (by (try simp only [List.map_toArray, List.map_cons, List.map_nil]); first | done | rfl | (simp only [List.length_drop, List.length_take]; rfl)) ?_; (with_reducible refine (impl_FlushDevice.calls _ _ x270000_2 _ _ x270001_2 t272 t275 true _ ?side1 ?side2 ?side3 ?side4 A32.out).mono ?_); (case side1 => repeat (first | exact (Kd.R_reads' p0'.out).2.2 | (with_reducible refine cA ?_ _) | (with_reducible refine cN ?_ _) | (with_reducible refine cD ?_))); (case side2 => exact (Kd.R_reads' p0'.out).2.1); (case side3 => repeat (first | exact (Kd.R_reads' p1'.out).2.2 | (with_reducible refine cA ?_ _) | (with_reducible refine cN ?_ _) | (with_reducible refine cD ?_))); (case side4 => exact (Kd.R_reads' p1'.out).2.1); rintro e w39 ⟨v273, v276, rfl, ho0, ho1, hb⟩; refine ⟨_, rfl, ?_⟩; have HO274 := aM (xL (Kd.R_new' ho0 (Kd.R_lt (xH p0'.out))) (zZ (zH HB.out))); replace p0' := aM (Kd.R_elder' (xH p0'.out) (Kd.R_base ho0) hb); have HO277 := aM (xL (Kd.R_newB (Kd.R_new' ho1 (Kd.R_lt (xH p1'.out))) (g := gb271) (o := .cells #[.int .i64 ((rd_T42 l1 x25_2).f0), .string ((rd_T42 l1 x25_2).f1)] 42 (0, 0)) (yH BK271.out)) (zZ (zH HB.out))); replace p1' := aM (Kd.R_elder' (xH p1'.out) (Kd.R_base ho1) hb); replace BK261 := yK BK261.out hb; replace BK269 := yK BK269.out hb; replace BK271 := yK BK271.out hb; replace HB := aM (zT (zH HB.out) hb); (try clear hb); (try clear ho0); (try clear ho1); obtain ⟨Ao40, co40, eo40⟩ := Kd.R_slice HO274.out; subst eo40; have hcz41_0 : w39.cell? ⟨gb269, 0, none⟩ = some (.slice Ao37 x270000_2.length co37) := yc BK269.out 0; have hcz41_1 : w39.cell? ⟨gb269, 1, none⟩ = some (.slice Ao38 x270001_2.length co38) := yc BK269.out 1; have hfz41_0 := yZ BK269.out 0; have hfz41_1 := yZ BK269.out 1; obtain ⟨Ao42, co42, eo42⟩ := Kd.R_slice HO277.out; subst eo42))
             go_roundg kj18
             case measure => have := HJ3.out; have := HK2.out; have := HJ18.out; omega
             case rel => exact ⟨(wrap64 (x25_2 + 1)), (t272), (t275), (.slice Ao40 t272.length co40), (.slice Ao42 t275.length co42), (by first | rfl | (simp; done) | (simp [*]; done)), H', ⟨by have := HJ3.out; have := HK2.out; have := HJ18.out; omega⟩, ⟨xH (xM (xF (p := ⟨gb269, 1, none⟩) (xF (p := ⟨gb269, 0, none⟩) (xT HO274.out BK269.out (by decide)) (fun _ hk => hk.2) (.slice Ao40 t272.length co40)) (fun _ hk => hk.2) (.slice Ao42 t275.length co42)) (fun _ hk => trivial))⟩, ⟨xH (xM (xF (p := ⟨gb269, 1, none⟩) (xF (p := ⟨gb269, 0, none⟩) (xT HO277.out BK269.out (by decide)) (fun _ hk => hk.2) (.slice Ao40 t272.length co40)) (fun _ hk => hk.2) (.slice Ao42 t275.length co42)) (fun _ hk => trivial))⟩, ⟨by (with_reducible repeat (first | refine yN ?_ _ | refine yD ?_ | refine yA ?_ _)); refine yF ?_ NB261_269.out _; (with_reducible repeat (first | refine yN ?_ _ | refine yD ?_ | refine yA ?_ _)); refine yF ?_ NB261_269.out _; (with_reducible repeat (first | refine yN ?_ _ | refine yD ?_ | refine yA ?_ _)); exact BK261.out⟩, ⟨by (with_reducible repeat (first | refine yN ?_ _ | refine yD ?_ | refine yA ?_ _)); refine yP (cs := #[.slice Ao40 t272.length co40, .slice Ao38 x270001_2.length co38]) ?_ 1 _ rfl; (with_reducible repeat (first | refine yN ?_ _ | refine yD ?_ | refine yA ?_ _)); refine yP (cs := #[.slice Ao37 x270000_2.length co37, .slice Ao38 x270001_2.length co38]) ?_ 0 _ rfl; (with_reducible repeat (first | refine yN ?_ _ | refine yD ?_ | refine yA ?_ _)); exact BK269.out⟩, ⟨zH HB.out⟩⟩
            ·replace c33 := Bool.eq_false_iff.mpr c33
             subst c33
             have H1 : (some (([] : List ByteArray), ([] : List (S42)), false)) = some (r1, r2, r3) := by rw [if_neg (show ¬ (false = true) by decide)] at H; exact H
             clear H
             have H := H1
             clear H1
             simp only [Option.some.injEq, Prod.mk.injEq] at H
             obtain ⟨rfl, rfl, rfl⟩ := H
             have hnb43 := NB269_261.out
             have hnc43 := NB261_269.out
             have hnb44 := NB269_271.out
             have hnc44 := NB271_269.out
             have hcz45_0 : wc.cell? ⟨gb269, 0, none⟩ = some (u270000) := yc BK269.out 0
             have hcz45_1 : wc.cell? ⟨gb269, 1, none⟩ = some (u270001) := yc BK269.out 1
             have hfz45_0 := yZ BK269.out 0
             have hfz45_1 := yZ BK269.out 1
             obtain ⟨Ao46, co46, eo46⟩ := Kd.R_slice p0'.out
             subst eo46
             obtain ⟨Ao47, co47, eo47⟩ := Kd.R_slice p1'.out
             subst eo47
             go_wp2_with (first | ((with_reducible refine gate_callee (f := 29) rfl ?_); refine goesL_ (some 39) rfl rfl Try.func29 (by kernel_rfl) rfl #[.agg #[.slice Ao46 x270000_2.length co46, .slice Ao47 x270001_2.length co47]] rfl (by (try simp only [List.map_toArray, List.map_cons, List.map_nil]); first | done | rfl | (simp only [List.length_drop, List.length_take]; rfl)) ?_; (with_reducible refine (impl_FlushDevice.calls _ _ x270000_2 _ _ x270001_2 t272 t275 false _ ?side1 ?side2 ?side3 ?side4 A32.out).mono ?_); (case side1 => repeat (first | exact (Kd.R_reads' p0'.out).2.2 | (with_reducible refine cA ?_ _) | (with_reducible refine cN ?_ _) | (with_reducible refine cD ?_))); (case side2 => exact (Kd.R_reads' p0'.out).2.1); (case side3 => repeat (first | exact (Kd.R_reads' p1'.out).2.2 | (with_reducible refine cA ?_ _) | (with_reducible refine cN ?_ _) | (with_reducible refine cD ?_))); (case side4 => exact (Kd.R_reads' p1'.out).2.1); rintro e w48 ⟨v273, v276, rfl, ho0, ho1, hb⟩; refine ⟨_, rfl, ?_⟩; have HO274 := aM (xL (Kd.R_new' ho0 (Kd.R_lt (xH p0'.out))) (zZ (zH HB.out))); replace p0' := aM (Kd.R_elder' (xH p0'.out) (Kd.R_base ho0) hb); have HO277 := aM (xL (Kd.R_newB (Kd.R_new' ho1 (Kd.R_lt (xH p1'.out))) (g := gb271) (o := .cells #[.int .i64 ((rd_T42 l1 x25_2).f0), .string ((rd_T42 l1 x25_2).f1)] 42 (0, 0)) (yH BK271.out)) (zZ (zH HB.out))); replace p1' := aM (Kd.R_elder' (xH p1'.out) (Kd.R_base ho1) hb); replace BK261 := yK BK261.out hb; replace BK269 := yK BK269.out hb; replace BK271 := yK BK271.out hb; replace HB := aM (zT (zH HB.out) hb); (try clear hb); (try clear ho0); (try clear ho1); obtain ⟨Ao49, co49, eo49⟩ := Kd.R_slice HO274.out; subst eo49; have hcz50_0 : w48.cell? ⟨gb269, 0, none⟩ = some (.slice Ao46 x270000_2.length co46) := yc BK269.out 0; have hcz50_1 : w48.cell? ⟨gb269, 1, none⟩ = some (.slice Ao47 x270001_2.length co47) := yc BK269.out 1; have hfz50_0 := yZ BK269.out 0; have hfz50_1 := yZ BK269.out 1; obtain ⟨Ao51, co51, eo51⟩ := Kd.R_slice HO277.out; subst eo51; have hnb52 := NB261_271.out; have hnc52 := NB271_261.out; have hcz53_0 : w48.cell? ⟨gb261, 0, none⟩ = some (.slice none 0 0) := yc BK261.out 0; have hcz53_1 : w48.cell? ⟨gb261, 1, none⟩ = some (.slice none 0 0) := yc BK261.out 1; have hfz53_0 := yZ BK261.out 0; have hfz53_1 := yZ BK261.out 1))
             refine bodyPost_ret (results_ct rfl _ _ gb261 30 #[.slice none 0 0, .slice none 0 0] (0, 0) _ rfl (by (with_reducible repeat (first | refine yN ?_ _ | refine yD ?_ | refine yA ?_ _)); refine yP (cs := #[.slice none 0 0, .slice none 0 0]) ?_ 1 _ rfl; (with_reducible repeat (first | refine yN ?_ _ | refine yD ?_ | refine yA ?_ _)); refine yP (cs := #[.slice none 0 0, .slice none 0 0]) ?_ 0 _ rfl; (with_reducible repeat (first | refine yN ?_ _ | refine yD ?_ | refine yA ?_ _)); refine yF ?_ NB261_269.out _; (with_reducible repeat (first | refine yN ?_ _ | refine yD ?_ | refine yA ?_ _)); refine yF ?_ NB261_269.out _; (with_reducible repeat (first | refine yN ?_ _ | refine yD ?_ | refine yA ?_ _)); exact BK261.out) Try.underlying30 rfl (by kernel_rfl)) rfl ?_
             exact ⟨_, _, by first | rfl | (simp [errW_none, errW_some] <;> rfl) | (simp [*, errW_none, errW_some] <;> rfl), by first | exact Kd.R_nil _ _ _ _ _ | exact Kd.N_nil _ _ _ _ _ | exact Kd.V_nil _ _ _ _ _ | exact Kd.Q_nil _ _ _ _ _ | exact Kd.S_nil _ _ _ _ _, by first | exact Kd.R_nil _ _ _ _ _ | exact Kd.N_nil _ _ _ _ _ | exact Kd.V_nil _ _ _ _ _ | exact Kd.Q_nil _ _ _ _ _ | exact Kd.S_nil _ _ _ _ _, zH HB.out⟩
           ·replace c31 := Bool.eq_false_iff.mpr c31
            subst c31
            have H1 : ((impl_WriteSector.f x270000_2 x270001_2 ((rd_T42 l1 x25_2).f0) ((rd_T42 l1 x25_2).f1)).bind fun bt279 => (if bt279.2.2 = true then (impl_PlayDevice.l0 kj18 l1 (l1.length : Int) (wrap64 (x25_2 + 1)) bt279.1 bt279.2.1) else (some (([] : List ByteArray), ([] : List (S42)), false)))) = some (r1, r2, r3) := by rw [if_neg (show ¬ (false = true) by decide)] at H; exact H
            clear H
            have H := H1
            clear H1
            replace H := Option.bind_eq_some_iff.mp H
            obtain ⟨⟨t279, t282, t285⟩, A540, H⟩ := H
            replace H : (if t285 = true then (impl_PlayDevice.l0 kj18 l1 (l1.length : Int) (wrap64 (x25_2 + 1)) t279 t282) else (some (([] : List ByteArray), ([] : List (S42)), false))) = some (r1, r2, r3) := H
            have A54 := aM A540
            clear A540
            by_cases c55 : t285 = true
            ·subst c55
             have H1 : (impl_PlayDevice.l0 kj18 l1 (l1.length : Int) (wrap64 (x25_2 + 1)) t279 t282) = some (r1, r2, r3) := by rw [if_pos rfl] at H; exact H
             clear H
             have H := H1
             clear H1
             have H' := aM H
             clear H
             have hnb56 := NB269_261.out
             have hnc56 := NB261_269.out
             have hnb57 := NB269_271.out
             have hnc57 := NB271_269.out
             have hcz58_0 : wc.cell? ⟨gb269, 0, none⟩ = some (u270000) := yc BK269.out 0
             have hcz58_1 : wc.cell? ⟨gb269, 1, none⟩ = some (u270001) := yc BK269.out 1
             have hfz58_0 := yZ BK269.out 0
             have hfz58_1 := yZ BK269.out 1
             have hnb59 := NB271_261.out
             have hnc59 := NB261_271.out
             have hcz60_0 : wc.cell? ⟨gb271, 0, none⟩ = some (.int .i64 ((rd_T42 l1 x25_2).f0)) := yc BK271.out 0
             have hcz60_1 : wc.cell? ⟨gb271, 1, none⟩ = some (.string ((rd_T42 l1 x25_2).f1)) := yc BK271.out 1
             have hfz60_0 := yZ BK271.out 0
             have hfz60_1 := yZ BK271.out 1
             obtain ⟨Ao61, co61, eo61⟩ := Kd.R_slice p0'.out
             subst eo61
             obtain ⟨Ao62, co62, eo62⟩ := Kd.R_slice p1'.out
             subst eo62
             go_wp2_with (first | ((with_reducible refine gate_callee (f := 25) rfl ?_); refine goesL_ (some 45) rfl rfl Try.func25 (by kernel_rfl) rfl #[.agg #[.slice Ao61 x270000_2.length co61, .slice Ao62 x270001_2.length co62], .agg #[.int .i64 ((rd_T42 l1 x25_2).f0), .string ((rd_T42 l1 x25_2).f1)]] rfl (by (try simp only [List.map_toArray, List.map_cons, List.map_nil]); first | done | rfl | (simp only [List.length_drop, List.length_take]; rfl)) ?_; (with_reducible refine (impl_WriteSector.calls _ _ x270000_2 _ _ x270001_2 ((rd_T42 l1 x25_2).f0) ((rd_T42 l1 x25_2).f1) t279 t282 true _ ?side1 ?side2 ?side3 ?side4 A54.out).mono ?_); (case side1 => repeat (first | exact (Kd.R_reads' p0'.out).2.2 | (with_reducible refine cA ?_ _) | (with_reducible refine cN ?_ _) | (with_reducible refine cD ?_))); (case side2 => exact (Kd.R_reads' p0'.out).2.1); (case side3 => repeat (first | exact (Kd.R_reads' p1'.out).2.2 | (with_reducible refine cA ?_ _) | (with_reducible refine cN ?_ _) | (with_reducible refine cD ?_))); (case side4 => exact (Kd.R_reads' p1'.out).2.1); rintro e w63 ⟨v280, v283, rfl, ho0, ho1, hb⟩; refine ⟨_, rfl, ?_⟩; have HO281 := aM (xL (Kd.R_new' ho0 (Kd.R_lt (xH p0'.out))) (zZ (zH HB.out))); replace p0' := aM (Kd.R_elder' (xH p0'.out) (Kd.R_base ho0) hb); have HO284 := aM (xL (Kd.R_newB (Kd.R_new' ho1 (Kd.R_lt (xH p1'.out))) (g := gb271) (o := .cells #[.int .i64 ((rd_T42 l1 x25_2).f0), .string ((rd_T42 l1 x25_2).f1)] 42 (0, 0)) (yH BK271.out)) (zZ (zH HB.out))); replace p1' := aM (Kd.R_elder' (xH p1'.out) (Kd.R_base ho1) hb); replace BK261 := yK BK261.out hb; replace BK269 := yK BK269.out hb; replace BK271 := yK BK271.out hb; replace HB := aM (zT (zH HB.out) hb); (try clear hb); (try clear ho0); (try clear ho1); obtain ⟨Ao64, co64, eo64⟩ := Kd.R_slice HO281.out; subst eo64; have hcz65_0 : w63.cell? ⟨gb269, 0, none⟩ = some (.slice Ao61 x270000_2.length co61) := yc BK269.out 0; have hcz65_1 : w63.cell? ⟨gb269, 1, none⟩ = some (.slice Ao62 x270001_2.length co62) := yc BK269.out 1; have hfz65_0 := yZ BK269.out 0; have hfz65_1 := yZ BK269.out 1; obtain ⟨Ao66, co66, eo66⟩ := Kd.R_slice HO284.out; subst eo66))
             go_roundg kj18
             case measure => have := HJ3.out; have := HK2.out; have := HJ18.out; omega
             case rel => exact ⟨(wrap64 (x25_2 + 1)), (t279), (t282), (.slice Ao64 t279.length co64), (.slice Ao66 t282.length co66), (by first | rfl | (simp; done) | (simp [*]; done)), H', ⟨by have := HJ3.out; have := HK2.out; have := HJ18.out; omega⟩, ⟨xH (xM (xF (p := ⟨gb269, 1, none⟩) (xF (p := ⟨gb269, 0, none⟩) (xT HO281.out BK269.out (by decide)) (fun _ hk => hk.2) (.slice Ao64 t279.length co64)) (fun _ hk => hk.2) (.slice Ao66 t282.length co66)) (fun _ hk => trivial))⟩, ⟨xH (xM (xF (p := ⟨gb269, 1, none⟩) (xF (p := ⟨gb269, 0, none⟩) (xT HO284.out BK269.out (by decide)) (fun _ hk => hk.2) (.slice Ao64 t279.length co64)) (fun _ hk => hk.2) (.slice Ao66 t282.length co66)) (fun _ hk => trivial))⟩, ⟨by (with_reducible repeat (first | refine yN ?_ _ | refine yD ?_ | refine yA ?_ _)); refine yF ?_ NB261_269.out _; (with_reducible repeat (first | refine yN ?_ _ | refine yD ?_ | refine yA ?_ _)); refine yF ?_ NB261_269.out _; (with_reducible repeat (first | refine yN ?_ _ | refine yD ?_ | refine yA ?_ _)); exact BK261.out⟩, ⟨by (with_reducible repeat (first | refine yN ?_ _ | refine yD ?_ | refine yA ?_ _)); refine yP (cs := #[.slice Ao64 t279.length co64, .slice Ao62 x270001_2.length co62]) ?_ 1 _ rfl; (with_reducible repeat (first | refine yN ?_ _ | refine yD ?_ | refine yA ?_ _)); refine yP (cs := #[.slice Ao61 x270000_2.length co61, .slice Ao62 x270001_2.length co62]) ?_ 0 _ rfl; (with_reducible repeat (first | refine yN ?_ _ | refine yD ?_ | refine yA ?_ _)); exact BK269.out⟩, ⟨zH HB.out⟩⟩
            ·replace c55 := Bool.eq_false_iff.mpr c55
             subst c55
             have H1 : (some (([] : List ByteArray), ([] : List (S42)), false)) = some (r1, r2, r3) := by rw [if_neg (show ¬ (false = true) by decide)] at H; exact H
             clear H
             have H := H1
             clear H1
             simp only [Option.some.injEq, Prod.mk.injEq] at H
             obtain ⟨rfl, rfl, rfl⟩ := H
             have hnb67 := NB269_261.out
             have hnc67 := NB261_269.out
             have hnb68 := NB269_271.out
             have hnc68 := NB271_269.out
             have hcz69_0 : wc.cell? ⟨gb269, 0, none⟩ = some (u270000) := yc BK269.out 0
             have hcz69_1 : wc.cell? ⟨gb269, 1, none⟩ = some (u270001) := yc BK269.out 1
             have hfz69_0 := yZ BK269.out 0
             have hfz69_1 := yZ BK269.out 1
             have hnb70 := NB271_261.out
             have hnc70 := NB261_271.out
             have hcz71_0 : wc.cell? ⟨gb271, 0, none⟩ = some (.int .i64 ((rd_T42 l1 x25_2).f0)) := yc BK271.out 0
             have hcz71_1 : wc.cell? ⟨gb271, 1, none⟩ = some (.string ((rd_T42 l1 x25_2).f1)) := yc BK271.out 1
             have hfz71_0 := yZ BK271.out 0
             have hfz71_1 := yZ BK271.out 1
             obtain ⟨Ao72, co72, eo72⟩ := Kd.R_slice p0'.out
             subst eo72
             obtain ⟨Ao73, co73, eo73⟩ := Kd.R_slice p1'.out
             subst eo73
             go_wp2_with (first | ((with_reducible refine gate_callee (f := 25) rfl ?_); refine goesL_ (some 45) rfl rfl Try.func25 (by kernel_rfl) rfl #[.agg #[.slice Ao72 x270000_2.length co72, .slice Ao73 x270001_2.length co73], .agg #[.int .i64 ((rd_T42 l1 x25_2).f0), .string ((rd_T42 l1 x25_2).f1)]] rfl (by (try simp only [List.map_toArray, List.map_cons, List.map_nil]); first | done | rfl | (simp only [List.length_drop, List.length_take]; rfl)) ?_; (with_reducible refine (impl_WriteSector.calls _ _ x270000_2 _ _ x270001_2 ((rd_T42 l1 x25_2).f0) ((rd_T42 l1 x25_2).f1) t279 t282 false _ ?side1 ?side2 ?side3 ?side4 A54.out).mono ?_); (case side1 => repeat (first | exact (Kd.R_reads' p0'.out).2.2 | (with_reducible refine cA ?_ _) | (with_reducible refine cN ?_ _) | (with_reducible refine cD ?_))); (case side2 => exact (Kd.R_reads' p0'.out).2.1); (case side3 => repeat (first | exact (Kd.R_reads' p1'.out).2.2 | (with_reducible refine cA ?_ _) | (with_reducible refine cN ?_ _) | (with_reducible refine cD ?_))); (case side4 => exact (Kd.R_reads' p1'.out).2.1); rintro e w74 ⟨v280, v283, rfl, ho0, ho1, hb⟩; refine ⟨_, rfl, ?_⟩; have HO281 := aM (xL (Kd.R_new' ho0 (Kd.R_lt (xH p0'.out))) (zZ (zH HB.out))); replace p0' := aM (Kd.R_elder' (xH p0'.out) (Kd.R_base ho0) hb); have HO284 := aM (xL (Kd.R_newB (Kd.R_new' ho1 (Kd.R_lt (xH p1'.out))) (g := gb271) (o := .cells #[.int .i64 ((rd_T42 l1 x25_2).f0), .string ((rd_T42 l1 x25_2).f1)] 42 (0, 0)) (yH BK271.out)) (zZ (zH HB.out))); replace p1' := aM (Kd.R_elder' (xH p1'.out) (Kd.R_base ho1) hb); replace BK261 := yK BK261.out hb; replace BK269 := yK BK269.out hb; replace BK271 := yK BK271.out hb; replace HB := aM (zT (zH HB.out) hb); (try clear hb); (try clear ho0); (try clear ho1); obtain ⟨Ao75, co75, eo75⟩ := Kd.R_slice HO281.out; subst eo75; have hcz76_0 : w74.cell? ⟨gb269, 0, none⟩ = some (.slice Ao72 x270000_2.length co72) := yc BK269.out 0; have hcz76_1 : w74.cell? ⟨gb269, 1, none⟩ = some (.slice Ao73 x270001_2.length co73) := yc BK269.out 1; have hfz76_0 := yZ BK269.out 0; have hfz76_1 := yZ BK269.out 1; obtain ⟨Ao77, co77, eo77⟩ := Kd.R_slice HO284.out; subst eo77; have hcz78_0 : w74.cell? ⟨gb261, 0, none⟩ = some (.slice none 0 0) := yc BK261.out 0; have hcz78_1 : w74.cell? ⟨gb261, 1, none⟩ = some (.slice none 0 0) := yc BK261.out 1; have hfz78_0 := yZ BK261.out 0; have hfz78_1 := yZ BK261.out 1))
             refine bodyPost_ret (results_ct rfl _ _ gb261 30 #[.slice none 0 0, .slice none 0 0] (0, 0) _ rfl (by (with_reducible repeat (first | refine yN ?_ _ | refine yD ?_ | refine yA ?_ _)); refine yP (cs := #[.slice none 0 0, .slice none 0 0]) ?_ 1 _ rfl; (with_reducible repeat (first | refine yN ?_ _ | refine yD ?_ | refine yA ?_ _)); refine yP (cs := #[.slice none 0 0, .slice none 0 0]) ?_ 0 _ rfl; (with_reducible repeat (first | refine yN ?_ _ | refine yD ?_ | refine yA ?_ _)); refine yF ?_ NB261_269.out _; (with_reducible repeat (first | refine yN ?_ _ | refine yD ?_ | refine yA ?_ _)); refine yF ?_ NB261_269.out _; (with_reducible repeat (first | refine yN ?_ _ | refine yD ?_ | refine yA ?_ _)); exact BK261.out) Try.underlying30 rfl (by kernel_rfl)) rfl ?_
             exact ⟨_, _, by first | rfl | (simp [errW_none, errW_some] <;> rfl) | (simp [*, errW_none, errW_some] <;> rfl), by first | exact Kd.R_nil _ _ _ _ _ | exact Kd.N_nil _ _ _ _ _ | exact Kd.V_nil _ _ _ _ _ | exact Kd.Q_nil _ _ _ _ _ | exact Kd.S_nil _ _ _ _ _, by first | exact Kd.R_nil _ _ _ _ _ | exact Kd.N_nil _ _ _ _ _ | exact Kd.V_nil _ _ _ _ _ | exact Kd.Q_nil _ _ _ _ _ | exact Kd.S_nil _ _ _ _ _, zH HB.out⟩
        ·rw [if_neg c18] at H
         exact absurd H (by simp)
       ·rw [if_neg c17] at H
        exact absurd H (by simp)
      ·rw [if_neg c16] at H
       have c16b0 : decide (x25_2 < (l1.length : Int)) = false := decide_eq_false c16
       clear c16
       simp only [Option.some.injEq, Prod.mk.injEq] at H
       obtain ⟨rfl, rfl, rfl⟩ := H
       have hnb79 := NB269_261.out
       have hnc79 := NB261_269.out
       have hcz80_0 : wr.cell? ⟨gb269, 0, none⟩ = some (u270000) := yc BK269.out 0
       have hcz80_1 : wr.cell? ⟨gb269, 1, none⟩ = some (u270001) := yc BK269.out 1
       have hfz80_0 := yZ BK269.out 0
       have hfz80_1 := yZ BK269.out 1
       obtain ⟨Ao81, co81, eo81⟩ := Kd.R_slice p0'.out
       subst eo81
       have hcz82_0 : wr.cell? ⟨gb261, 0, none⟩ = some (.slice none 0 0) := yc BK261.out 0
       have hcz82_1 : wr.cell? ⟨gb261, 1, none⟩ = some (.slice none 0 0) := yc BK261.out 1
       have hfz82_0 := yZ BK261.out 0
       have hfz82_1 := yZ BK261.out 1
       obtain ⟨Ao83, co83, eo83⟩ := Kd.R_slice p1'.out
       subst eo83
       go_wp2
       refine bodyPost_ret (results_ct rfl _ _ gb261 30 #[.slice Ao81 x270000_2.length co81, .slice Ao83 x270001_2.length co83] (0, 0) _ rfl (by (with_reducible repeat (first | refine yN ?_ _ | refine yD ?_ | refine yA ?_ _)); refine yP (cs := #[.slice Ao81 x270000_2.length co81, .slice none 0 0]) ?_ 1 _ rfl; (with_reducible repeat (first | refine yN ?_ _ | refine yD ?_ | refine yA ?_ _)); refine yP (cs := #[.slice none 0 0, .slice none 0 0]) ?_ 0 _ rfl; (with_reducible repeat (first | refine yN ?_ _ | refine yD ?_ | refine yA ?_ _)); exact BK261.out) Try.underlying30 rfl (by kernel_rfl)) rfl ?_
       exact ⟨_, _, by first | rfl | (simp [errW_none, errW_some] <;> rfl) | (simp [*, errW_none, errW_some] <;> rfl), xH (xM (xF (p := ⟨gb261, 1, none⟩) (xF (p := ⟨gb261, 0, none⟩) (xT p0'.out BK261.out (by decide)) (fun _ hk => hk.2) (.slice Ao81 x270000_2.length co81)) (fun _ hk => hk.2) (.slice Ao83 x270001_2.length co83)) (fun _ hk => trivial)), xH (xM (xF (p := ⟨gb261, 1, none⟩) (xF (p := ⟨gb261, 0, none⟩) (xT p1'.out BK261.out (by decide)) (fun _ hk => hk.2) (.slice Ao81 x270000_2.length co81)) (fun _ hk => hk.2) (.slice Ao83 x270001_2.length co83)) (fun _ hk => trivial)), zH HB.out⟩

end Go.Proofs.Ytlhgkbleciokmaa.PFnExactPlayDevice
