-- Functions and contracts: laid by a program of mine out of the translation. Not trusted: Lean checks it.
import Derived.Test.YtchcpjmdmohngaaPx0
import Derived.Test.YtchcpjmdmohngaaPx1
namespace Go.Proofs.Ytchcpjmdmohngaa.P
open Go.RowKit Go.Proofs.YtchcpjmdmohngaaW.PrintWords Go.Proofs.YtchcpjmdmohngaaW.PrintLast Go.Proofs.YtchcpjmdmohngaaW.PrintMore
attribute [local go_sem] max2_int min2_int max_two min_two max_three min_three max_four min_four   -- for this text's walks alone
set_option linter.unusedVariables false
set_option linter.unusedSimpArgs false

/-! ### spec_QuotaRange: function 17 -/
def spec_QuotaRange.l0 : Nat → Int → List Int → Int → Int → Int → List Int → Option (Int × Int × Bool)
  | 0, _, _, _, _, _, _ => none
  | k + 1, x5, x12, x13, x14, x293000, x293001 => if x14 < x13 then (if 0 ≤ x14 then (if x14 < (x12.length : Int) then (if (rd x12 x14) ≥ x293000 then (some (x5, rd x12 x14, true)) else (spec_QuotaRange.l0 k (wrap64 ((rd x12 x14) + 1)) x12 x13 (wrap64 (x14 + 1)) x293000 x293001)) else (none)) else (none)) else (some (0, 0, false))
def spec_QuotaRange.f (k : Nat) (a0_0 : Int) (l0_1 : List Int) : Option (Int × Int × Bool) := (spec_voGood.f k a0_0 l0_1).bind fun t293 => (if t293 = true then ((spec_shSums.f k a0_0 l0_1).bind fun t294 => (spec_QuotaRange.l0 k 1 t294 (t294.length : Int) 0 a0_0 l0_1)) else (some (0, 0, false)))
theorem spec_QuotaRange.mono_l : ∀ k, (∀ y0 y1 y2 y3 y4 y5, LeO (spec_QuotaRange.l0 k y0 y1 y2 y3 y4 y5) (spec_QuotaRange.l0 (k + 1) y0 y1 y2 y3 y4 y5))
  | 0 => fun _ _ _ _ _ _ r h => by simp [spec_QuotaRange.l0] at h
  | k + 1 => by
    have ih0 := spec_QuotaRange.mono_l k
    · intro y0 y1 y2 y3 y4 y5
      unfold spec_QuotaRange.l0
      repeat' first
      | (with_reducible exact ih0 _ _ _ _ _ _)
      | (with_reducible exact spec_shSums.mono _ _ _)
      | (with_reducible exact spec_voGood.mono _ _ _)
      | (with_reducible exact LeO.refl _)
      | (with_reducible exact LeO.none _)
      | (with_reducible refine LeO.ite ?_ ?_)
      | (with_reducible refine LeO.bind ?_ (fun _ => ?_))
      | exact ih0 _ _ _ _ _ _
      | exact spec_shSums.mono _ _ _
      | exact spec_voGood.mono _ _ _
      | exact LeO.none _
      | refine LeO.ite ?_ ?_
      | refine LeO.bind ?_ (fun _ => ?_)
theorem spec_QuotaRange.mono : ∀ a0 a1 k, LeO (spec_QuotaRange.f k a0 a1) (spec_QuotaRange.f (k + 1) a0 a1) := by
  intro a0 a1 k
  have ih0 := spec_QuotaRange.mono_l k
  unfold spec_QuotaRange.f
  repeat' first
      | (with_reducible exact ih0 _ _ _ _ _ _)
      | (with_reducible exact spec_shSums.mono _ _ _)
      | (with_reducible exact spec_voGood.mono _ _ _)
      | (with_reducible exact LeO.refl _)
      | (with_reducible exact LeO.none _)
      | (with_reducible refine LeO.ite ?_ ?_)
      | (with_reducible refine LeO.bind ?_ (fun _ => ?_))
      | exact ih0 _ _ _ _ _ _
      | exact spec_shSums.mono _ _ _
      | exact spec_voGood.mono _ _ _
      | exact LeO.none _
      | refine LeO.ite ?_ ?_
      | refine LeO.bind ?_ (fun _ => ?_)
set_option maxHeartbeats 8000000 in
set_option maxRecDepth 100000 in
theorem spec_QuotaRange.calls (k : Nat) (a0_0 : Int) (A0_1 : Option Addr) (c0_1 : Nat) (l0_1 : List Int) (r1 : Int) (r2 : Int) (r3 : Bool) (w : World) (hr0_1 : Kd.C (Kd.int .i64) w A0_1 l0_1.length l0_1) (hc0_1 : l0_1.length ≤ c0_1) (h : spec_QuotaRange.f k a0_0 l0_1 = some (r1, r2, r3)) :
    Calls Try.prog 17 #[.agg #[.int .i64 a0_0, .slice A0_1 l0_1.length c0_1]] w fun e w' => e = .returned (.tuple #[.int .i64 r1, .int .i64 r2, .bool r3]) ∧ Below w.heap.size w w' := by
  have hu28 := Try.underlying28
  have HR0_1 := Aside0.mk hr0_1
  have HC0_1 := Aside0.mk hc0_1
  clear hr0_1 hc0_1
  have HB := Aside0.mk (Below.refl w.heap.size w)
  have H : ((spec_voGood.f k a0_0 l0_1).bind fun t293 => (if t293 = true then ((spec_shSums.f k a0_0 l0_1).bind fun t294 => (spec_QuotaRange.l0 k 1 t294 (t294.length : Int) 0 a0_0 l0_1)) else (some (0, 0, false)))) = some (r1, r2, r3) := h
  clear h
  replace H := Option.bind_eq_some_iff.mp H
  obtain ⟨t293, A20, H⟩ := H
  replace H : (if t293 = true then ((spec_shSums.f k a0_0 l0_1).bind fun t294 => (spec_QuotaRange.l0 k 1 t294 (t294.length : Int) 0 a0_0 l0_1)) else (some (0, 0, false))) = some (r1, r2, r3) := H
  have A2 := Aside0.mk A20
  clear A20
  by_cases c3 : t293 = true
  · subst c3
    have H1 : ((spec_shSums.f k a0_0 l0_1).bind fun t294 => (spec_QuotaRange.l0 k 1 t294 (t294.length : Int) 0 a0_0 l0_1)) = some (r1, r2, r3) := by rw [if_pos rfl] at H; exact H
    clear H
    have H := H1
    clear H1
    replace H := Option.bind_eq_some_iff.mp H
    obtain ⟨t294, A40, H⟩ := H
    replace H : (spec_QuotaRange.l0 k 1 t294 (t294.length : Int) 0 a0_0 l0_1) = some (r1, r2, r3) := H
    have A4 := Aside0.mk A40
    clear A40
    have H' := Aside0.mk H
    clear H
    go_enter Try.func17, Try.ntmps17
    go_wp2_with (first | ((with_reducible refine gate_dst (N := 1) rfl ?_); refine box_event ?hg (N := 1) ?hd (cs := #[.int .i64 a0_0, .slice A0_1 l0_1.length c0_1]) (t := 28) ?hr ?_; (case hd => rfl); (case hg => rfl); (case hr => first | (go_simp; done) | (go_simp; rfl)); intro gb292 hg w5 hbox hb; have n0_ := Aside0.mk (below_step (by repeat (first | (with_reducible first | exact HB.out | apply below_alloc | apply pw_below_drewN | apply below_drew1) | exact HB.out)) hb); have n1_ := Aside0.mk (hbox); have n2_ := Aside0.mk ((by rw [hg]; exact (below_size (by repeat (first | (with_reducible first | exact HB.out | apply below_alloc | apply pw_below_drewN | apply below_drew1) | exact HB.out))) : w.heap.size ≤ gb292)); have n3_ := Aside0.mk ((by rw [hg]; exact (below_size (by repeat (first | (with_reducible first | exact HB.out | apply below_alloc | apply pw_below_drewN | apply below_drew1) | exact HB.out))) : w.heap.size ≤ gb292)); clear HB; have HB := n0_; have BK292 := n1_; have GW292 := n2_; have GE292 := n3_; clear n0_ n1_ n2_ n3_; clear hb hbox hg; have hcz6_0 : w5.cell? ⟨gb292, 0, none⟩ = some (.int .i64 a0_0) := (blk_cell BK292.out 0).trans rfl; have hcz6_1 : w5.cell? ⟨gb292, 1, none⟩ = some (.slice A0_1 l0_1.length c0_1) := (blk_cell BK292.out 1).trans rfl; have hfz6_0 := blk_frozen BK292.out 0; have hfz6_1 := blk_frozen BK292.out 1) | ((with_reducible refine gate_callee (f := 20) rfl ?_); refine goesL_ (some 9) rfl rfl Try.func20 (by kernel_rfl) rfl #[.agg #[.int .i64 a0_0, .slice A0_1 l0_1.length c0_1]] rfl (by (try simp only [List.map_toArray, List.map_cons, List.map_nil]); first | done | rfl | (simp only [List.length_drop, List.length_take]; rfl)) ?_; (with_reducible refine (spec_voGood.calls k a0_0 _ _ l0_1 true _ ?side1 ?side2 A2.out).mono ?_); (case side1 => repeat (first | exact (Kd.C_below HR0_1.out HB.out) | (with_reducible refine Kd.C_alloc ?_ _) | (with_reducible refine Kd.C_drewN ?_ _) | (with_reducible refine Kd.C_drew ?_))); (case side2 => exact HC0_1.out); rintro e w7 ⟨rfl, hb⟩; refine ⟨_, rfl, ?_⟩; have n0_ := Aside0.mk (blk_below (g := gb292) (o := .cells #[.int .i64 a0_0, .slice A0_1 l0_1.length c0_1] 28 (0, 0)) (by (with_reducible repeat (first | refine blk_drewN ?_ _ | refine blk_drew ?_ | refine blk_alloc ?_ _)); exact BK292.out) hb); have n1_ := Aside0.mk (below_step (by repeat (first | (with_reducible first | exact HB.out | apply below_alloc | apply pw_below_drewN | apply below_drew1 | refine below_set ?_ GE292.out) | exact HB.out)) hb); clear BK292; clear HB; have BK292 := n0_; have HB := n1_; clear n0_ n1_; (try clear hb); (try clear hb2); (try clear hk); (try clear hi); have hcz8_0 : w7.cell? ⟨gb292, 0, none⟩ = some (.int .i64 a0_0) := (blk_cell BK292.out 0).trans rfl; have hcz8_1 : w7.cell? ⟨gb292, 1, none⟩ = some (.slice A0_1 l0_1.length c0_1) := (blk_cell BK292.out 1).trans rfl; have hfz8_0 := blk_frozen BK292.out 0; have hfz8_1 := blk_frozen BK292.out 1) | ((with_reducible refine gate_callee (f := 21) rfl ?_); refine goesL_ (some 12) rfl rfl Try.func21 (by kernel_rfl) rfl #[.agg #[.int .i64 a0_0, .slice A0_1 l0_1.length c0_1]] rfl (by (try simp only [List.map_toArray, List.map_cons, List.map_nil]); first | done | rfl | (simp only [List.length_drop, List.length_take]; rfl)) ?_; (with_reducible refine (spec_shSums.calls k a0_0 _ _ l0_1 t294 _ ?side1 ?side2 A4.out).mono ?_); (case side1 => repeat (first | exact (Kd.C_below HR0_1.out HB.out) | (with_reducible refine Kd.C_alloc ?_ _) | (with_reducible refine Kd.C_drewN ?_ _) | (with_reducible refine Kd.C_drew ?_))); (case side2 => exact HC0_1.out); rintro e w9 ⟨v295, rfl, ho0, hb⟩; refine ⟨_, rfl, ?_⟩; have n0_ := Aside0.mk (Kd.R_lower ho0 (below_size (by repeat (first | (with_reducible first | exact HB.out | apply below_alloc | apply pw_below_drewN | apply below_drew1 | refine below_set ?_ GE292.out) | exact HB.out)))); have n1_ := Aside0.mk (blk_below (g := gb292) (o := .cells #[.int .i64 a0_0, .slice A0_1 l0_1.length c0_1] 28 (0, 0)) (by (with_reducible repeat (first | refine blk_drewN ?_ _ | refine blk_drew ?_ | refine blk_alloc ?_ _)); exact BK292.out) hb); have n2_ := Aside0.mk (below_step (by repeat (first | (with_reducible first | exact HB.out | apply below_alloc | apply pw_below_drewN | apply below_drew1 | refine below_set ?_ GE292.out) | exact HB.out)) hb); clear BK292; clear HB; have HO296 := n0_; have BK292 := n1_; have HB := n2_; clear n0_ n1_ n2_; (try clear hb); (try clear hb2); (try clear hk); (try clear hi); (try clear ho0); obtain ⟨Ao10, co10, eo10⟩ := Kd.R_slice HO296.out; subst eo10))
    go_loopg [5, 14] k (fun kq v5 v14 w' => ∃ (x5_1 : Int) (x14_1 : Int), v5 = .int .i64 x5_1 ∧ v14 = .int .i64 x14_1 ∧ Aside0 (spec_QuotaRange.l0 kq x5_1 t294 (t294.length : Int) x14_1 a0_0 l0_1 = some (r1, r2, r3)) ∧ Aside0 (kq ≤ k) ∧ Aside0 (Kd.R (Kd.int .i64) 3 w' w.heap.size (fun _ => True) (.slice Ao10 t294.length co10) t294) ∧ Aside0 (w'.heap[gb292]? = some (.cells #[.int .i64 a0_0, (.slice A0_1 l0_1.length c0_1)] 28 (0, 0))) ∧ Aside0 (Below w.heap.size w w'))
    case atStart => exact ⟨(1), (0), (by first | rfl | (simp; done) | (simp [*]; done)), (by first | rfl | (simp; done) | (simp [*]; done)), H', ⟨Nat.le_refl _⟩, ⟨by (with_reducible repeat (first | apply Kd.R_alloc | apply Kd.R_drewN | apply Kd.R_drew)); exact HO296.out⟩, ⟨by (with_reducible repeat (first | refine blk_drewN ?_ _ | refine blk_drew ?_ | refine blk_alloc ?_ _)); exact BK292.out⟩, ⟨by repeat (first | (with_reducible first | exact HB.out | apply below_alloc | apply pw_below_drewN | apply below_drew1 | refine below_set ?_ GE292.out) | exact HB.out)⟩⟩
    case round =>
      clear H'
      try clear c1
      try clear c2
      try clear p2
      try clear c3
      try clear hcz6_0
      try clear hcz6_1
      try clear hcz8_0
      try clear hcz8_1
      try clear hfz6_0
      try clear hfz6_1
      try clear hfz8_0
      try clear hfz8_1
      obtain ⟨x5_1, x14_1, rfl, rfl, HA, HK1, HO_12, BK292, HB⟩ := hrel
      cases gk with
      | zero => exact absurd HA.out (by simp [spec_QuotaRange.l0])
      | succ k1 =>
        have H := HA.out
        clear HA
        simp only [spec_QuotaRange.l0] at H
        by_cases c11 : x14_1 < (t294.length : Int)
        · rw [if_pos c11] at H
          have c11b0 : decide (x14_1 < (t294.length : Int)) = true := decide_eq_true c11
          clear c11
          by_cases c12 : 0 ≤ x14_1
          · rw [if_pos c12] at H
            have c12b0 : decide (0 ≤ x14_1) = true := decide_eq_true c12
            clear c12
            by_cases c13 : x14_1 < (t294.length : Int)
            · rw [if_pos c13] at H
              have c13b0 : decide (x14_1 < (t294.length : Int)) = true := decide_eq_true c13
              clear c13
              by_cases c14 : (rd t294 x14_1) ≥ a0_0
              · rw [if_pos c14] at H
                have c14b0 : decide (a0_0 ≤ (rd t294 x14_1)) = true := decide_eq_true c14
                clear c14
                simp only [Option.some.injEq, Prod.mk.injEq] at H
                obtain ⟨rfl, rfl, rfl⟩ := H
                have p297 : 0 ≤ (x14_1 : Int) := of_decide_eq_true (by first | (with_reducible assumption) | assumption)
                have q297 : x14_1 < (t294.length : Int) := of_decide_eq_true (by first | (with_reducible assumption) | assumption)
                obtain ⟨ad297, e297, hx297_0⟩ := Kd.at_int (Kd.R_reads' HO_12.out).2.2 x14_1 p297 q297
                cases e297
                replace p297 := eq_true p297
                replace q297 := eq_true q297
                have hcz15_0 : wr.cell? ⟨gb292, 0, none⟩ = some (.int .i64 a0_0) := (blk_cell BK292.out 0).trans rfl
                have hcz15_1 : wr.cell? ⟨gb292, 1, none⟩ = some (.slice A0_1 l0_1.length c0_1) := (blk_cell BK292.out 1).trans rfl
                have hfz15_0 := blk_frozen BK292.out 0
                have hfz15_1 := blk_frozen BK292.out 1
                go_wp2
                go_ret3
                exact ⟨by first | rfl | (simp [errW_none, errW_some] <;> rfl) | (simp [*, errW_none, errW_some] <;> rfl), by repeat (first | (with_reducible first | exact HB.out | apply below_alloc | apply pw_below_drewN | apply below_drew1 | refine below_set ?_ GE292.out) | exact HB.out)⟩
              · rw [if_neg c14] at H
                have c14b0 : decide (a0_0 ≤ (rd t294 x14_1)) = false := decide_eq_false c14
                clear c14
                have H' := Aside0.mk H
                clear H
                have p297 : 0 ≤ (x14_1 : Int) := of_decide_eq_true (by first | (with_reducible assumption) | assumption)
                have q297 : x14_1 < (t294.length : Int) := of_decide_eq_true (by first | (with_reducible assumption) | assumption)
                obtain ⟨ad297, e297, hx297_0⟩ := Kd.at_int (Kd.R_reads' HO_12.out).2.2 x14_1 p297 q297
                cases e297
                replace p297 := eq_true p297
                replace q297 := eq_true q297
                have hcz16_0 : wr.cell? ⟨gb292, 0, none⟩ = some (.int .i64 a0_0) := (blk_cell BK292.out 0).trans rfl
                have hcz16_1 : wr.cell? ⟨gb292, 1, none⟩ = some (.slice A0_1 l0_1.length c0_1) := (blk_cell BK292.out 1).trans rfl
                have hfz16_0 := blk_frozen BK292.out 0
                have hfz16_1 := blk_frozen BK292.out 1
                go_wp2
                go_roundg k1
                case measure => have := HK1.out; omega
                case rel => exact ⟨(wrap64 ((rd t294 x14_1) + 1)), (wrap64 (x14_1 + 1)), (by first | rfl | (simp; done) | (simp [*]; done)), (by first | rfl | (simp; done) | (simp [*]; done)), H', ⟨by have := HK1.out; omega⟩, ⟨by (with_reducible repeat (first | apply Kd.R_alloc | apply Kd.R_drewN | apply Kd.R_drew)); exact HO_12.out⟩, ⟨by (with_reducible repeat (first | refine blk_drewN ?_ _ | refine blk_drew ?_ | refine blk_alloc ?_ _)); exact BK292.out⟩, ⟨by repeat (first | (with_reducible first | exact HB.out | apply below_alloc | apply pw_below_drewN | apply below_drew1 | refine below_set ?_ GE292.out) | exact HB.out)⟩⟩
            · rw [if_neg c13] at H
              exact absurd H (by simp)
          · rw [if_neg c12] at H
            exact absurd H (by simp)
        · rw [if_neg c11] at H
          have c11b0 : decide (x14_1 < (t294.length : Int)) = false := decide_eq_false c11
          clear c11
          simp only [Option.some.injEq, Prod.mk.injEq] at H
          obtain ⟨rfl, rfl, rfl⟩ := H
          go_wp2
          go_ret3
          exact ⟨by first | rfl | (simp [errW_none, errW_some] <;> rfl) | (simp [*, errW_none, errW_some] <;> rfl), by repeat (first | (with_reducible first | exact HB.out | apply below_alloc | apply pw_below_drewN | apply below_drew1 | refine below_set ?_ GE292.out) | exact HB.out)⟩
  · replace c3 := Bool.eq_false_iff.mpr c3
    subst c3
    have H1 : (some (0, 0, false)) = some (r1, r2, r3) := by rw [if_neg (show ¬ (false = true) by decide)] at H; exact H
    clear H
    have H := H1
    clear H1
    simp only [Option.some.injEq, Prod.mk.injEq] at H
    obtain ⟨rfl, rfl, rfl⟩ := H
    go_enter Try.func17, Try.ntmps17
    go_wp2_with (first | ((with_reducible refine gate_dst (N := 1) rfl ?_); refine box_event ?hg (N := 1) ?hd (cs := #[.int .i64 a0_0, .slice A0_1 l0_1.length c0_1]) (t := 28) ?hr ?_; (case hd => rfl); (case hg => rfl); (case hr => first | (go_simp; done) | (go_simp; rfl)); intro gb292 hg w17 hbox hb; have n0_ := Aside0.mk (below_step (by repeat (first | (with_reducible first | exact HB.out | apply below_alloc | apply pw_below_drewN | apply below_drew1) | exact HB.out)) hb); have n1_ := Aside0.mk (hbox); have n2_ := Aside0.mk ((by rw [hg]; exact (below_size (by repeat (first | (with_reducible first | exact HB.out | apply below_alloc | apply pw_below_drewN | apply below_drew1) | exact HB.out))) : w.heap.size ≤ gb292)); have n3_ := Aside0.mk ((by rw [hg]; exact (below_size (by repeat (first | (with_reducible first | exact HB.out | apply below_alloc | apply pw_below_drewN | apply below_drew1) | exact HB.out))) : w.heap.size ≤ gb292)); clear HB; have HB := n0_; have BK292 := n1_; have GW292 := n2_; have GE292 := n3_; clear n0_ n1_ n2_ n3_; clear hb hbox hg; have hcz18_0 : w17.cell? ⟨gb292, 0, none⟩ = some (.int .i64 a0_0) := (blk_cell BK292.out 0).trans rfl; have hcz18_1 : w17.cell? ⟨gb292, 1, none⟩ = some (.slice A0_1 l0_1.length c0_1) := (blk_cell BK292.out 1).trans rfl; have hfz18_0 := blk_frozen BK292.out 0; have hfz18_1 := blk_frozen BK292.out 1) | ((with_reducible refine gate_callee (f := 20) rfl ?_); refine goesL_ (some 9) rfl rfl Try.func20 (by kernel_rfl) rfl #[.agg #[.int .i64 a0_0, .slice A0_1 l0_1.length c0_1]] rfl (by (try simp only [List.map_toArray, List.map_cons, List.map_nil]); first | done | rfl | (simp only [List.length_drop, List.length_take]; rfl)) ?_; (with_reducible refine (spec_voGood.calls k a0_0 _ _ l0_1 false _ ?side1 ?side2 A2.out).mono ?_); (case side1 => repeat (first | exact (Kd.C_below HR0_1.out HB.out) | (with_reducible refine Kd.C_alloc ?_ _) | (with_reducible refine Kd.C_drewN ?_ _) | (with_reducible refine Kd.C_drew ?_))); (case side2 => exact HC0_1.out); rintro e w19 ⟨rfl, hb⟩; refine ⟨_, rfl, ?_⟩; have n0_ := Aside0.mk (blk_below (g := gb292) (o := .cells #[.int .i64 a0_0, .slice A0_1 l0_1.length c0_1] 28 (0, 0)) (by (with_reducible repeat (first | refine blk_drewN ?_ _ | refine blk_drew ?_ | refine blk_alloc ?_ _)); exact BK292.out) hb); have n1_ := Aside0.mk (below_step (by repeat (first | (with_reducible first | exact HB.out | apply below_alloc | apply pw_below_drewN | apply below_drew1 | refine below_set ?_ GE292.out) | exact HB.out)) hb); clear BK292; clear HB; have BK292 := n0_; have HB := n1_; clear n0_ n1_; (try clear hb); (try clear hb2); (try clear hk); (try clear hi)))
    go_ret3
    exact ⟨by first | rfl | (simp [errW_none, errW_some] <;> rfl) | (simp [*, errW_none, errW_some] <;> rfl), by repeat (first | (with_reducible first | exact HB.out | apply below_alloc | apply pw_below_drewN | apply below_drew1 | refine below_set ?_ GE292.out) | exact HB.out)⟩

-- NOT PRINTED: function 27 (impl_QuotaRange_1)

/-! ### impl_QuotaRange: function 18 -/
theorem impl_QuotaRange.lit (B : Nat) (q : Int) (v : Value) (L : List Int) (w : World) (hblk : w.heap[B]? = some (.cells #[.int .i64 q, v] 28 (0, 0))) :
    Pred Try.prog 27 #[.pointer (some ⟨B, 0, none⟩)] (Kd.int .i64) (fun n => decide (q ≤ n)) L w := by
  intro W n u _ hK hb
  obtain rfl : u = .int .i64 n := by simpa [Kd.int, Kd.scalar] using hK
  have hu := Try.underlying28
  have hblk' := blk_below hblk hb
  have hlt := blk_lt hblk'
  have c0 : W.cell? ⟨B, 0, none⟩ = some (.int .i64 q) := (blk_cell hblk' 0).trans rfl
  have HB := Aside0.mk hb
  clear hb hK hblk hblk'
  show Calls Try.prog 27 #[.int .i64 n, .pointer (some ⟨B, 0, none⟩)] W fun e w' => e = .returned (.bool (decide (q ≤ n))) ∧ Below w.heap.size w w'
  go_enter Try.func27, Try.ntmps27
  go_wp2
  go_ret
  exact ⟨by first | rfl | simp, HB.out⟩
/-- Where the quota's place is found: the numbers on both sides. -/
def rangeO (q : Int) (ss : List Int) : Option (Int × Int × Bool) := if 1 ≤ idxOf (fun n => decide (q ≤ n)) ss ∧ idxOf (fun n => decide (q ≤ n)) ss < ss.length ∧ ss.length ≤ 1000000 ∧ ss.all (fun x => decide (0 ≤ x ∧ x ≤ 1000000)) = true then some (ss.getD (idxOf (fun n => decide (q ≤ n)) ss - 1).toNat 0 + 1, ss.getD (idxOf (fun n => decide (q ≤ n)) ss).toNat 0, true) else none
def impl_QuotaRange.f (k : Nat) (a0_0 : Int) (l0_1 : List Int) : Option (Int × Int × Bool) := (impl_IsCommittee.f k a0_0 l0_1).bind fun b => if b = true then ((impl_Committee_sums.f k a0_0 l0_1).bind fun ss => rangeO a0_0 ss) else some (0, 0, false)
theorem impl_QuotaRange.mono : ∀ a0 a1 k, LeO (impl_QuotaRange.f k a0 a1) (impl_QuotaRange.f (k + 1) a0 a1) := fun a0 a1 k => LeO.bind (impl_IsCommittee.mono a0 a1 k) (fun _ => LeO.ite (LeO.bind (impl_Committee_sums.mono a0 a1 k) (fun _ => LeO.refl _)) (LeO.refl _))
set_option maxHeartbeats 4000000 in
set_option maxRecDepth 100000 in
theorem impl_QuotaRange.calls (k : Nat) (a0_0 : Int) (A0_1 : Option Addr) (c0_1 : Nat) (l0_1 : List Int) (r1 : Int) (r2 : Int) (r3 : Bool) (w : World) (hr0_1 : Kd.C (Kd.int .i64) w A0_1 l0_1.length l0_1) (hc0_1 : l0_1.length ≤ c0_1) (h : impl_QuotaRange.f k a0_0 l0_1 = some (r1, r2, r3)) :
    Calls Try.prog 18 #[.agg #[.int .i64 a0_0, .slice A0_1 l0_1.length c0_1]] w fun e w' => e = .returned (.tuple #[.int .i64 r1, .int .i64 r2, .bool r3]) ∧ Below w.heap.size w w' := by
  have hu := Try.underlying28
  unfold impl_QuotaRange.f at h
  obtain ⟨b, hb, h⟩ := Option.bind_eq_some_iff.1 h
  have HCom := Aside0.mk (fun W (hW : Below w.heap.size w W) => impl_IsCommittee.calls k a0_0 A0_1 c0_1 l0_1 b W (Kd.C_below hr0_1 hW) hc0_1 hb)
  have HB := Aside0.mk (Below.refl w.heap.size w)
  clear hb
  cases b with
  | false =>
    rw [if_neg (by decide)] at h
    simp only [Option.some.injEq, Prod.mk.injEq] at h
    obtain ⟨rfl, rfl, rfl⟩ := h
    clear hr0_1
    go_enter Try.func18, Try.ntmps18
    go_wp2_with (go_at_call 23; refine (HCom.out _ (by repeat (first | exact HB.out | apply below_alloc))).mono ?_; rintro e w1 ⟨rfl, hb1⟩; have n0_ := Aside0.mk (below_then (below_alloc HB.out _) (by simp) hb1); clear HB hb1; have HB := n0_; clear n0_)
    go_ret3
    exact ⟨rfl, HB.out⟩
  | true =>
    rw [if_pos rfl] at h
    obtain ⟨ss, hss, h⟩ := Option.bind_eq_some_iff.1 h
    unfold rangeO at h
    split at h
    case isFalse => cases h
    rename_i hg
    obtain ⟨g0, g1, g2, g3⟩ := hg
    simp only [Option.some.injEq, Prod.mk.injEq] at h
    obtain ⟨rfl, rfl, rfl⟩ := h
    have HSum := Aside0.mk (fun W (hW : Below w.heap.size w W) => impl_Committee_sums.calls k a0_0 A0_1 c0_1 l0_1 ss W (Kd.C_below hr0_1 hW) hc0_1 hss)
    clear hr0_1 hss
    have HIdx := Aside0.mk (fun (A : Option Addr) (c : Nat) (v : Value) (W : World) (hblk : W.heap[w.heap.size]? = some (.cells #[.int .i64 a0_0, v] 28 (0, 0))) (hr : Kd.C (Kd.int .i64) W A ss.length ss) (hc : ss.length ≤ c) =>
      slices_IndexFunc_int_int.hof (Kd.int .i64) rfl 27 #[.pointer (some ⟨w.heap.size, 0, none⟩)] (enters_of Try.func27 (by kernel_rfl) rfl) (fun n => decide (a0_0 ≤ n)) A c ss W (impl_QuotaRange.lit w.heap.size a0_0 v ss W hblk) hr hc)
    generalize hj : idxOf (fun n => decide (a0_0 ≤ n)) ss = j at HIdx g0 g1 ⊢
    obtain ⟨i0, hi0⟩ := Int.eq_ofNat_of_zero_le (show 0 ≤ j - 1 by omega)
    obtain ⟨i1, hi1⟩ := Int.eq_ofNat_of_zero_le (show 0 ≤ j by omega)
    subst hi1
    have hl0 : i0 < ss.length := by omega
    have hl1 : i1 < ss.length := by omega
    have ev0 : ss.getD ((i1 : Int) - 1).toNat 0 = ss[i0] := by rw [show ((i1 : Int) - 1).toNat = i0 by omega]; simp [hl0]
    have ev1 : ss.getD ((i1 : Int)).toNat 0 = ss[i1] := by rw [Int.toNat_natCast]; simp [hl1]
    have hb0 := of_decide_eq_true (List.all_eq_true.1 g3 _ (List.getElem_mem hl0))
    rw [ev0, ev1]
    have hw1 : IntKind.i64.wrap ((i1 : Int) - 1) = (i0 : Int) := by rw [i64_w, show (i1 : Int) - 1 = (i0 : Int) by omega]; exact wrap_id (by omega) (by omega)
    have hw1' : wrap64 ((i1 : Int) - 1) = (i0 : Int) := (i64_w _).symm.trans hw1
    have hw2 : IntKind.i64.wrap (ss[i0] + 1) = ss[i0] + 1 := by rw [i64_w]; exact wrap_id (by omega) (by omega)
    have hw2' : wrap64 (ss[i0] + 1) = ss[i0] + 1 := (i64_w _).symm.trans hw2
    have q0 : (0 ≤ (i0 : Int)) = True := eq_true (Int.natCast_nonneg _)
    have q1 : ((i0 : Int) < (ss.length : Int)) = True := eq_true (by omega)
    have q2 : (0 ≤ (i1 : Int)) = True := eq_true (by omega)
    have q3 : ((i1 : Int) < (ss.length : Int)) = True := eq_true (by omega)
    clear ev0 ev1 hj hi0 g3
    have hmf : ∀ (fn : Fn) (first cap : Array Value) (w : World), (Instr.makeFunc fn first cap).run Try.prog w = .ok (.func fn first cap) w := fun _ _ _ _ => rfl
    go_enter Try.func18, Try.ntmps18
    go_wp2_with (first | (go_at_call 23; refine (HCom.out _ (by repeat (first | exact HB.out | apply below_alloc))).mono ?_; rintro e w1 ⟨rfl, hb1⟩; have B0 := Aside0.mk (blk_below (blk_new w _) hb1); have n0_ := Aside0.mk (below_then (below_alloc HB.out _) (by simp) hb1); clear HB hb1; have HB := n0_; clear n0_; have hlt0 := blk_lt B0.out; have hcz0 : w1.cell? ⟨w.heap.size, 0, none⟩ = some (.int .i64 a0_0) := (blk_cell B0.out 0).trans rfl; have hcz1 : w1.cell? ⟨w.heap.size, 1, none⟩ = some (.slice A0_1 l0_1.length c0_1) := (blk_cell B0.out 1).trans rfl; have hfz0 := blk_frozen B0.out 0; have hfz1 := blk_frozen B0.out 1) | (go_at_call 24; refine (HSum.out _ HB.out).mono ?_; rintro e w2 ⟨v2, rfl, hR2, hb2⟩; obtain ⟨A2, c2, rfl⟩ := Kd.R_slice hR2; obtain ⟨-, hc2, hr2⟩ := Kd.R_reads' hR2; have n0_ := Aside0.mk (below_step HB.out hb2); have n1_ := Aside0.mk (blk_below B0.out hb2); clear HB B0; have HB := n0_; have B0 := n1_; clear n0_ n1_ hb2 hR2 hcz0 hcz1 hfz0 hfz1 hlt0; have HR2 := Aside0.mk hr2; have HI := Aside0.mk (HIdx.out A2 c2 _ w2 B0.out hr2 hc2); clear hr2) | (go_at_call 26; refine HI.out.mono ?_; rintro e w3 ⟨rfl, hb3⟩; have n0_ := Aside0.mk (below_step HB.out hb3); clear HB; have HB := n0_; clear n0_; have HR3 := Aside0.mk (Kd.C_below HR2.out hb3); clear hb3 HR2 HI))
    obtain ⟨ad, u2, eA2, hK2, hcellA⟩ := C_one (d := Kd.int .i64) rfl HR3.out i0 hl0
    obtain ⟨ad', u3, eA3, hK3, hcellB⟩ := C_one (d := Kd.int .i64) rfl HR3.out i1 hl1
    subst eA2
    cases eA3
    obtain rfl : u2 = .int .i64 ss[i0] := by simpa [Kd.int, Kd.scalar] using hK2
    obtain rfl : u3 = .int .i64 ss[i1] := by simpa [Kd.int, Kd.scalar] using hK3
    have hcA : w3.drew.cell? (ad.add i0) = some (.int .i64 ss[i0]) := hcellA
    have hcB : w3.drew.cell? (ad.add i1) = some (.int .i64 ss[i1]) := hcellB
    clear hK2 hK3 hcellA hcellB
    refine start_ (n := 13) (S := fun w' => w'.cell? (ad.add i0) = some (.int .i64 ss[i0]) ∧ w'.cell? (ad.add i1) = some (.int .i64 ss[i1])) (ds := []) #[false, false, false, false, false, false, false, false, false, false, false, false, false] (by kernel_rfl) rfl rfl ⟨hcA, hcB⟩ (fun hHeld => ?_)
    refine pure_ (i := 0) (N := some 15) (v := ?_) (a' := ?_) #[true, false, false, false, false, false, false, false, false, false, false, false, false] rfl rfl (by kernel_rfl) (fun _ _ _ h => h) (Or.inl ⟨by rfl, ?_⟩) ?_ ?_
    rotate_left
    · intro w'
      go_simp
      with_reducible rfl
    rotate_left
    · simp only [Act.put, List.setIfInBounds_toArray, List.set_cons_zero, List.set_cons_succ, i64_w, i32_w]
      rfl
    refine pure_ (i := 1) (N := some 16) (v := ?_) (a' := ?_) #[true, true, false, false, false, false, false, false, false, false, false, false, false] rfl rfl (by kernel_rfl) (fun _ _ _ h => h) (Or.inl ⟨by rfl, ?_⟩) ?_ ?_
    rotate_left
    · intro w'
      go_simp
      with_reducible rfl
    rotate_left
    · simp only [Act.put, List.setIfInBounds_toArray, List.set_cons_zero, List.set_cons_succ, i64_w, i32_w]
      rfl
    refine pure_ (i := 2) (N := some 17) (v := ?_) (a' := ?_) #[true, true, true, false, false, false, false, false, false, false, false, false, false] rfl rfl (by kernel_rfl) (fun _ _ _ h => h) (Or.inl ⟨by rfl, ?_⟩) ?_ ?_
    rotate_left
    · intro w'
      go_simp
      with_reducible rfl
    rotate_left
    · simp only [Act.put, List.setIfInBounds_toArray, List.set_cons_zero, List.set_cons_succ, i64_w, i32_w]
      rfl
    refine pure_ (i := 3) (N := some 18) (v := ?_) (a' := ?_) #[true, true, true, true, false, false, false, false, false, false, false, false, false] rfl rfl (by kernel_rfl) (fun _ _ _ h => h) (Or.inl ⟨by rfl, ?_⟩) ?_ ?_
    rotate_left
    · intro w'
      go_simp
      with_reducible rfl
    rotate_left
    · simp only [Act.put, List.setIfInBounds_toArray, List.set_cons_zero, List.set_cons_succ, i64_w, i32_w]
      rfl
    refine pure_ (i := 6) (N := some 21) (v := ?_) (a' := ?_) #[true, true, true, true, false, false, true, false, false, false, false, false, false] rfl rfl (by kernel_rfl) (fun _ _ _ h => h) (Or.inl ⟨by rfl, ?_⟩) ?_ ?_
    rotate_left
    · intro w'
      go_simp
      with_reducible rfl
    rotate_left
    · simp only [Act.put, List.setIfInBounds_toArray, List.set_cons_zero, List.set_cons_succ, i64_w, i32_w]
      rfl
    refine pure_ (i := 7) (N := some 22) (v := ?_) (a' := ?_) #[true, true, true, true, false, false, true, true, false, false, false, false, false] rfl rfl (by kernel_rfl) (fun _ _ _ h => h) (Or.inl ⟨by rfl, ?_⟩) ?_ ?_
    rotate_left
    · intro w'
      go_simp
      with_reducible rfl
    rotate_left
    · simp only [Act.put, List.setIfInBounds_toArray, List.set_cons_zero, List.set_cons_succ, i64_w, i32_w]
      rfl
    refine pure_ (i := 8) (N := some 23) (v := ?_) (a' := ?_) #[true, true, true, true, false, false, true, true, true, false, false, false, false] rfl rfl (by kernel_rfl) (fun _ _ _ h => h) (Or.inl ⟨by rfl, ?_⟩) ?_ ?_
    rotate_left
    · intro w'
      go_simp
      with_reducible rfl
    rotate_left
    · simp only [Act.put, List.setIfInBounds_toArray, List.set_cons_zero, List.set_cons_succ, i64_w, i32_w]
      rfl
    refine take_ (i := 4) (N := some 19) (v := ?_) (a' := ?_) #[true, true, true, true, true, false, true, true, true, false, false, false, false] rfl rfl (by kernel_rfl) (fun _ _ _ h => h) (Or.inl ⟨by rfl, ?_⟩) hHeld ?_ ?_
    rotate_left
    · rintro w' ⟨s0, s1⟩
      go_simp
      with_reducible rfl
    rotate_left
    · simp only [Act.put, List.setIfInBounds_toArray, List.set_cons_zero, List.set_cons_succ, i64_w, i32_w]
      rfl
    refine pure_ (i := 5) (N := some 20) (v := ?_) (a' := ?_) #[true, true, true, true, true, true, true, true, true, false, false, false, false] rfl rfl (by kernel_rfl) (fun _ _ _ h => h) (Or.inl ⟨by rfl, ?_⟩) ?_ ?_
    rotate_left
    · intro w'
      go_simp
      with_reducible rfl
    rotate_left
    · simp only [Act.put, List.setIfInBounds_toArray, List.set_cons_zero, List.set_cons_succ, i64_w, i32_w]
      rfl
    refine pure_ (i := 10) (N := some 2) (v := ?_) (a' := ?_) #[true, true, true, true, true, true, true, true, true, false, true, false, false] rfl rfl (by kernel_rfl) (fun _ _ _ h => h) (Or.inl ⟨by rfl, ?_⟩) ?_ ?_
    rotate_left
    · intro w'
      go_simp
      with_reducible rfl
    rotate_left
    · simp only [Act.put, List.setIfInBounds_toArray, List.set_cons_zero, List.set_cons_succ, i64_w, i32_w]
      rfl
    refine take_ (i := 9) (N := some 24) (v := ?_) (a' := ?_) #[true, true, true, true, true, true, true, true, true, true, true, false, false] rfl rfl (by kernel_rfl) (fun _ _ _ h => h) (Or.inl ⟨by rfl, ?_⟩) hHeld ?_ ?_
    rotate_left
    · rintro w' ⟨s0, s1⟩
      go_simp
      with_reducible rfl
    rotate_left
    · simp only [Act.put, List.setIfInBounds_toArray, List.set_cons_zero, List.set_cons_succ, i64_w, i32_w]
      rfl
    refine pure_ (i := 11) (N := some 3) (v := ?_) (a' := ?_) #[true, true, true, true, true, true, true, true, true, true, true, true, false] rfl rfl (by kernel_rfl) (fun _ _ _ h => h) (Or.inl ⟨by rfl, ?_⟩) ?_ ?_
    rotate_left
    · intro w'
      go_simp
      with_reducible rfl
    rotate_left
    · simp only [Act.put, List.setIfInBounds_toArray, List.set_cons_zero, List.set_cons_succ, i64_w, i32_w]
      rfl
    refine pure_ (i := 12) (N := some 4) (v := ?_) (a' := ?_) #[true, true, true, true, true, true, true, true, true, true, true, true, true] rfl rfl (by kernel_rfl) (fun _ _ _ h => h) (Or.inl ⟨by rfl, ?_⟩) ?_ ?_
    rotate_left
    · intro w'
      go_simp
      with_reducible rfl
    rotate_left
    · simp only [Act.put, List.setIfInBounds_toArray, List.set_cons_zero, List.set_cons_succ, i64_w, i32_w]
      rfl
    refine done_ (by kernel_rfl) ?_
    go_wp2
    go_ret3
    exact ⟨rfl, below_drew1 HB.out⟩


end Go.Proofs.Ytchcpjmdmohngaa.P
