-- Functions and contracts: laid by a program of mine out of the translation. Not trusted: Lean checks it.
import Derived.Test.YthjnmfacdlgbbaaPx0
import Derived.Test.YthjnmfacdlgbbaaPx1
import Derived.Test.YthjnmfacdlgbbaaPx4
import Derived.Test.YthjnmfacdlgbbaaPx5
import Derived.Test.YthjnmfacdlgbbaaPx6
import Derived.Test.YthjnmfacdlgbbaaPx7
namespace Go.Proofs.Ythjnmfacdlgbbaa.P
open Go.RowKit Go.Proofs.YthjnmfacdlgbbaaW.PrintWords Go.Proofs.YthjnmfacdlgbbaaW.PrintLast Go.Proofs.YthjnmfacdlgbbaaW.PrintMore
attribute [local go_sem] max2_int min2_int max_two min_two max_three min_three max_four min_four   -- for this text's walks alone
set_option linter.unusedVariables false
set_option linter.unusedSimpArgs false

/-! ### spec_shMember: function 32 -/
def spec_shMember.f (k : Nat) (a0_0 : Int) (l0_1 : List Int) (a1 : Int) : Option (Bool) := (spec_shScanned.f k a0_0 l0_1).bind fun t115 => (if t115 = true then ((spec_l1In.f a1 0 (wrap64 ((l0_1.length : Int) - 1))).bind fun t116 => (some t116)) else (some false))
theorem spec_shMember.mono : ∀ a0 a1 a2 k, LeO (spec_shMember.f k a0 a1 a2) (spec_shMember.f (k + 1) a0 a1 a2) := by
  intro a0 a1 a2 k
  unfold spec_shMember.f
  repeat' first
      | (with_reducible exact spec_shScanned.mono _ _ _)
      | (with_reducible exact LeO.refl _)
      | (with_reducible exact LeO.none _)
      | (with_reducible refine LeO.ite ?_ ?_)
      | (with_reducible refine LeO.bind ?_ (fun _ => ?_))
      | exact spec_shScanned.mono _ _ _
      | exact LeO.none _
      | refine LeO.ite ?_ ?_
      | refine LeO.bind ?_ (fun _ => ?_)
set_option maxHeartbeats 8000000 in
set_option maxRecDepth 100000 in
theorem spec_shMember.calls (k : Nat) (a0_0 : Int) (A0_1 : Option Addr) (c0_1 : Nat) (l0_1 : List Int) (a1 : Int) (r : Bool) (w : World) (hr0_1 : Kd.C (Kd.int .i64) w A0_1 l0_1.length l0_1) (hc0_1 : l0_1.length ≤ c0_1) (h : spec_shMember.f k a0_0 l0_1 a1 = some r) :
    Calls Try.prog 32 #[.agg #[.int .i64 a0_0, .slice A0_1 l0_1.length c0_1], .int .i64 a1] w fun e w' => e = .returned (.bool r) ∧ Below w.heap.size w w' := by
  have hu28 := Try.underlying28
  have HR0_1 := Aside0.mk hr0_1
  have HC0_1 := Aside0.mk hc0_1
  clear hr0_1 hc0_1
  have HB := Aside0.mk (Below.refl w.heap.size w)
  have H : ((spec_shScanned.f k a0_0 l0_1).bind fun t115 => (if t115 = true then ((spec_l1In.f a1 0 (wrap64 ((l0_1.length : Int) - 1))).bind fun t116 => (some t116)) else (some false))) = some r := h
  clear h
  replace H := Option.bind_eq_some_iff.mp H
  obtain ⟨t115, A30, H⟩ := H
  replace H : (if t115 = true then ((spec_l1In.f a1 0 (wrap64 ((l0_1.length : Int) - 1))).bind fun t116 => (some t116)) else (some false)) = some r := H
  have A3 := Aside0.mk A30
  clear A30
  by_cases c4 : t115 = true
  · subst c4
    have H1 : ((spec_l1In.f a1 0 (wrap64 ((l0_1.length : Int) - 1))).bind fun t116 => (some t116)) = some r := by rw [if_pos rfl] at H; exact H
    clear H
    have H := H1
    clear H1
    replace H := Option.bind_eq_some_iff.mp H
    obtain ⟨t116, A50, H⟩ := H
    replace H : (some t116) = some r := H
    have A5 := Aside0.mk A50
    clear A50
    obtain rfl := Option.some.inj H
    go_enter Try.func32, Try.ntmps32
    go_wp2_with (first | ((with_reducible refine gate_dst (N := 2) rfl ?_); refine box_event ?hg (N := 2) ?hd (cs := #[.int .i64 a0_0, .slice A0_1 l0_1.length c0_1]) (t := 28) ?hr ?_; (case hd => rfl); (case hg => rfl); (case hr => first | (go_simp; done) | (go_simp; rfl)); intro gb114 hg w6 hbox hb; have n0_ := Aside0.mk (below_step (by repeat (first | (with_reducible first | exact HB.out | apply below_alloc | apply pw_below_drewN | apply below_drew1) | exact HB.out)) hb); have n1_ := Aside0.mk (hbox); have n2_ := Aside0.mk ((by rw [hg]; exact (below_size (by repeat (first | (with_reducible first | exact HB.out | apply below_alloc | apply pw_below_drewN | apply below_drew1) | exact HB.out))) : w.heap.size ≤ gb114)); have n3_ := Aside0.mk ((by rw [hg]; exact (below_size (by repeat (first | (with_reducible first | exact HB.out | apply below_alloc | apply pw_below_drewN | apply below_drew1) | exact HB.out))) : w.heap.size ≤ gb114)); clear HB; have HB := n0_; have BK114 := n1_; have GW114 := n2_; have GE114 := n3_; clear n0_ n1_ n2_ n3_; clear hb hbox hg; have hcz7_0 : w6.cell? ⟨gb114, 0, none⟩ = some (.int .i64 a0_0) := (blk_cell BK114.out 0).trans rfl; have hcz7_1 : w6.cell? ⟨gb114, 1, none⟩ = some (.slice A0_1 l0_1.length c0_1) := (blk_cell BK114.out 1).trans rfl; have hfz7_0 := blk_frozen BK114.out 0; have hfz7_1 := blk_frozen BK114.out 1) | ((with_reducible refine gate_callee (f := 60) rfl ?_); refine goesL_ (some 6) rfl rfl Try.func60 (by kernel_rfl) rfl #[.agg #[.int .i64 a0_0, .slice A0_1 l0_1.length c0_1]] rfl (by (try simp only [List.map_toArray, List.map_cons, List.map_nil]); first | done | rfl | (simp only [List.length_drop, List.length_take]; rfl)) ?_; (with_reducible refine (spec_shScanned.calls k a0_0 _ _ l0_1 true _ ?side1 ?side2 A3.out).mono ?_); (case side1 => repeat (first | exact (Kd.C_below HR0_1.out HB.out) | (with_reducible refine Kd.C_alloc ?_ _) | (with_reducible refine Kd.C_drewN ?_ _) | (with_reducible refine Kd.C_drew ?_))); (case side2 => exact HC0_1.out); rintro e w8 ⟨rfl, hb⟩; refine ⟨_, rfl, ?_⟩; have n0_ := Aside0.mk (blk_below (g := gb114) (o := .cells #[.int .i64 a0_0, .slice A0_1 l0_1.length c0_1] 28 (0, 0)) (by (with_reducible repeat (first | refine blk_drewN ?_ _ | refine blk_drew ?_ | refine blk_alloc ?_ _)); exact BK114.out) hb); have n1_ := Aside0.mk (below_step (by repeat (first | (with_reducible first | exact HB.out | apply below_alloc | apply pw_below_drewN | apply below_drew1 | refine below_set ?_ GE114.out) | exact HB.out)) hb); clear BK114; clear HB; have BK114 := n0_; have HB := n1_; clear n0_ n1_; (try clear hb); (try clear hb2); (try clear hk); (try clear hi); have hcz9_0 : w8.cell? ⟨gb114, 0, none⟩ = some (.int .i64 a0_0) := (blk_cell BK114.out 0).trans rfl; have hcz9_1 : w8.cell? ⟨gb114, 1, none⟩ = some (.slice A0_1 l0_1.length c0_1) := (blk_cell BK114.out 1).trans rfl; have hfz9_0 := blk_frozen BK114.out 0; have hfz9_1 := blk_frozen BK114.out 1) | (go_at_call 43; (with_reducible refine (spec_l1In.calls a1 0 (wrap64 ((l0_1.length : Int) - 1)) t116 _ A5.out).mono ?_); rintro e w' ⟨rfl, ⟨nd, rfl⟩⟩))
    go_ret
    exact ⟨by first | rfl | (simp [errW_none, errW_some] <;> rfl) | (simp [*, errW_none, errW_some] <;> rfl), by repeat (first | (with_reducible first | exact HB.out | apply below_alloc | apply pw_below_drewN | apply below_drew1 | refine below_set ?_ GE114.out) | exact HB.out)⟩
  · replace c4 := Bool.eq_false_iff.mpr c4
    subst c4
    have H1 : (some false) = some r := by rw [if_neg (show ¬ (false = true) by decide)] at H; exact H
    clear H
    have H := H1
    clear H1
    obtain rfl := Option.some.inj H
    go_enter Try.func32, Try.ntmps32
    go_wp2_with (first | ((with_reducible refine gate_dst (N := 2) rfl ?_); refine box_event ?hg (N := 2) ?hd (cs := #[.int .i64 a0_0, .slice A0_1 l0_1.length c0_1]) (t := 28) ?hr ?_; (case hd => rfl); (case hg => rfl); (case hr => first | (go_simp; done) | (go_simp; rfl)); intro gb114 hg w10 hbox hb; have n0_ := Aside0.mk (below_step (by repeat (first | (with_reducible first | exact HB.out | apply below_alloc | apply pw_below_drewN | apply below_drew1) | exact HB.out)) hb); have n1_ := Aside0.mk (hbox); have n2_ := Aside0.mk ((by rw [hg]; exact (below_size (by repeat (first | (with_reducible first | exact HB.out | apply below_alloc | apply pw_below_drewN | apply below_drew1) | exact HB.out))) : w.heap.size ≤ gb114)); have n3_ := Aside0.mk ((by rw [hg]; exact (below_size (by repeat (first | (with_reducible first | exact HB.out | apply below_alloc | apply pw_below_drewN | apply below_drew1) | exact HB.out))) : w.heap.size ≤ gb114)); clear HB; have HB := n0_; have BK114 := n1_; have GW114 := n2_; have GE114 := n3_; clear n0_ n1_ n2_ n3_; clear hb hbox hg; have hcz11_0 : w10.cell? ⟨gb114, 0, none⟩ = some (.int .i64 a0_0) := (blk_cell BK114.out 0).trans rfl; have hcz11_1 : w10.cell? ⟨gb114, 1, none⟩ = some (.slice A0_1 l0_1.length c0_1) := (blk_cell BK114.out 1).trans rfl; have hfz11_0 := blk_frozen BK114.out 0; have hfz11_1 := blk_frozen BK114.out 1) | ((with_reducible refine gate_callee (f := 60) rfl ?_); refine goesL_ (some 6) rfl rfl Try.func60 (by kernel_rfl) rfl #[.agg #[.int .i64 a0_0, .slice A0_1 l0_1.length c0_1]] rfl (by (try simp only [List.map_toArray, List.map_cons, List.map_nil]); first | done | rfl | (simp only [List.length_drop, List.length_take]; rfl)) ?_; (with_reducible refine (spec_shScanned.calls k a0_0 _ _ l0_1 false _ ?side1 ?side2 A3.out).mono ?_); (case side1 => repeat (first | exact (Kd.C_below HR0_1.out HB.out) | (with_reducible refine Kd.C_alloc ?_ _) | (with_reducible refine Kd.C_drewN ?_ _) | (with_reducible refine Kd.C_drew ?_))); (case side2 => exact HC0_1.out); rintro e w12 ⟨rfl, hb⟩; refine ⟨_, rfl, ?_⟩; have n0_ := Aside0.mk (blk_below (g := gb114) (o := .cells #[.int .i64 a0_0, .slice A0_1 l0_1.length c0_1] 28 (0, 0)) (by (with_reducible repeat (first | refine blk_drewN ?_ _ | refine blk_drew ?_ | refine blk_alloc ?_ _)); exact BK114.out) hb); have n1_ := Aside0.mk (below_step (by repeat (first | (with_reducible first | exact HB.out | apply below_alloc | apply pw_below_drewN | apply below_drew1 | refine below_set ?_ GE114.out) | exact HB.out)) hb); clear BK114; clear HB; have BK114 := n0_; have HB := n1_; clear n0_ n1_; (try clear hb); (try clear hb2); (try clear hk); (try clear hi)))
    go_ret
    exact ⟨by first | rfl | (simp [errW_none, errW_some] <;> rfl) | (simp [*, errW_none, errW_some] <;> rfl), by repeat (first | (with_reducible first | exact HB.out | apply below_alloc | apply pw_below_drewN | apply below_drew1 | refine below_set ?_ GE114.out) | exact HB.out)⟩

/-! ### spec_DummyQuotas: function 9 -/
def spec_DummyQuotas.l0 : Nat → Int → List Int → Int → Int → List Int → Option (List Int × Bool)
  | 0, _, _, _, _, _ => none
  | k + 1, x1, x6, x7, x131000, x131001 => (spec_voSum.f k x131001).bind fun t132 => (if x7 ≤ t132 then ((spec_voWins.f k x7 x131001).bind fun t133 => ((spec_pwSwings.f k t133 x1).bind fun t136 => (if (t136.length : Int) = 0 then (if x6.length < 17592186044416 then (spec_DummyQuotas.l0 k x1 (x6 ++ [x7]) (wrap64 (x7 + 1)) x131000 x131001) else (none)) else (spec_DummyQuotas.l0 k x1 x6 (wrap64 (x7 + 1)) x131000 x131001)))) else (some (x6, true)))
def spec_DummyQuotas.f (k : Nat) (a0_0 : Int) (l0_1 : List Int) (a1 : Int) : Option (List Int × Bool) := (spec_shMember.f k a0_0 l0_1 a1).bind fun t131 => (if t131 = true then (spec_DummyQuotas.l0 k a1 ([] : List Int) 1 a0_0 l0_1) else (some (([] : List Int), false)))
theorem spec_DummyQuotas.mono_l : ∀ k, (∀ y0 y1 y2 y3 y4, LeO (spec_DummyQuotas.l0 k y0 y1 y2 y3 y4) (spec_DummyQuotas.l0 (k + 1) y0 y1 y2 y3 y4))
  | 0 => fun _ _ _ _ _ r h => by simp [spec_DummyQuotas.l0] at h
  | k + 1 => by
    have ih0 := spec_DummyQuotas.mono_l k
    · intro y0 y1 y2 y3 y4
      unfold spec_DummyQuotas.l0
      repeat' first
      | (with_reducible exact ih0 _ _ _ _ _)
      | (with_reducible exact spec_pwSwings.mono _ _ _)
      | (with_reducible exact spec_shMember.mono _ _ _ _)
      | (with_reducible exact spec_voSum.mono _ _)
      | (with_reducible exact spec_voWins.mono _ _ _)
      | (with_reducible exact LeO.refl _)
      | (with_reducible exact LeO.none _)
      | (with_reducible refine LeO.ite ?_ ?_)
      | (with_reducible refine LeO.bind ?_ (fun _ => ?_))
      | exact ih0 _ _ _ _ _
      | exact spec_pwSwings.mono _ _ _
      | exact spec_shMember.mono _ _ _ _
      | exact spec_voSum.mono _ _
      | exact spec_voWins.mono _ _ _
      | exact LeO.none _
      | refine LeO.ite ?_ ?_
      | refine LeO.bind ?_ (fun _ => ?_)
theorem spec_DummyQuotas.mono : ∀ a0 a1 a2 k, LeO (spec_DummyQuotas.f k a0 a1 a2) (spec_DummyQuotas.f (k + 1) a0 a1 a2) := by
  intro a0 a1 a2 k
  have ih0 := spec_DummyQuotas.mono_l k
  unfold spec_DummyQuotas.f
  repeat' first
      | (with_reducible exact ih0 _ _ _ _ _)
      | (with_reducible exact spec_pwSwings.mono _ _ _)
      | (with_reducible exact spec_shMember.mono _ _ _ _)
      | (with_reducible exact spec_voSum.mono _ _)
      | (with_reducible exact spec_voWins.mono _ _ _)
      | (with_reducible exact LeO.refl _)
      | (with_reducible exact LeO.none _)
      | (with_reducible refine LeO.ite ?_ ?_)
      | (with_reducible refine LeO.bind ?_ (fun _ => ?_))
      | exact ih0 _ _ _ _ _
      | exact spec_pwSwings.mono _ _ _
      | exact spec_shMember.mono _ _ _ _
      | exact spec_voSum.mono _ _
      | exact spec_voWins.mono _ _ _
      | exact LeO.none _
      | refine LeO.ite ?_ ?_
      | refine LeO.bind ?_ (fun _ => ?_)
set_option maxHeartbeats 8000000 in
set_option maxRecDepth 100000 in
theorem spec_DummyQuotas.calls (k : Nat) (a0_0 : Int) (A0_1 : Option Addr) (c0_1 : Nat) (l0_1 : List Int) (a1 : Int) (r1 : List Int) (r2 : Bool) (w : World) (hr0_1 : Kd.C (Kd.int .i64) w A0_1 l0_1.length l0_1) (hc0_1 : l0_1.length ≤ c0_1) (h : spec_DummyQuotas.f k a0_0 l0_1 a1 = some (r1, r2)) :
    Calls Try.prog 9 #[.agg #[.int .i64 a0_0, .slice A0_1 l0_1.length c0_1], .int .i64 a1] w fun e w' => ∃ v0_ : Value, e = .returned (.tuple #[v0_, .bool r2]) ∧ Kd.R (Kd.int .i64) 3 w' w.heap.size (fun _ => True) v0_ r1 ∧ Below w.heap.size w w' := by
  have hu28 := Try.underlying28
  have HR0_1 := Aside0.mk hr0_1
  have HC0_1 := Aside0.mk hc0_1
  clear hr0_1 hc0_1
  have HB := Aside0.mk (Below.refl w.heap.size w)
  have H : ((spec_shMember.f k a0_0 l0_1 a1).bind fun t131 => (if t131 = true then (spec_DummyQuotas.l0 k a1 ([] : List Int) 1 a0_0 l0_1) else (some (([] : List Int), false)))) = some (r1, r2) := h
  clear h
  replace H := Option.bind_eq_some_iff.mp H
  obtain ⟨t131, A30, H⟩ := H
  replace H : (if t131 = true then (spec_DummyQuotas.l0 k a1 ([] : List Int) 1 a0_0 l0_1) else (some (([] : List Int), false))) = some (r1, r2) := H
  have A3 := Aside0.mk A30
  clear A30
  by_cases c4 : t131 = true
  · subst c4
    have H1 : (spec_DummyQuotas.l0 k a1 ([] : List Int) 1 a0_0 l0_1) = some (r1, r2) := by rw [if_pos rfl] at H; exact H
    clear H
    have H := H1
    clear H1
    have H' := Aside0.mk H
    clear H
    go_enter Try.func9, Try.ntmps9
    go_wp2_with (first | ((with_reducible refine gate_dst (N := 2) rfl ?_); refine box_event ?hg (N := 2) ?hd (cs := #[.int .i64 a0_0, .slice A0_1 l0_1.length c0_1]) (t := 28) ?hr ?_; (case hd => rfl); (case hg => rfl); (case hr => first | (go_simp; done) | (go_simp; rfl)); intro gb130 hg w5 hbox hb; have n0_ := Aside0.mk (below_step (by repeat (first | (with_reducible first | exact HB.out | apply below_alloc | apply pw_below_drewN | apply below_drew1) | exact HB.out)) hb); have n1_ := Aside0.mk (hbox); have n2_ := Aside0.mk ((by rw [hg]; exact (below_size (by repeat (first | (with_reducible first | exact HB.out | apply below_alloc | apply pw_below_drewN | apply below_drew1) | exact HB.out))) : w.heap.size ≤ gb130)); have n3_ := Aside0.mk ((by rw [hg]; exact (below_size (by repeat (first | (with_reducible first | exact HB.out | apply below_alloc | apply pw_below_drewN | apply below_drew1) | exact HB.out))) : w.heap.size ≤ gb130)); clear HB; have HB := n0_; have BK130 := n1_; have GW130 := n2_; have GE130 := n3_; clear n0_ n1_ n2_ n3_; clear hb hbox hg; have hcz6_0 : w5.cell? ⟨gb130, 0, none⟩ = some (.int .i64 a0_0) := (blk_cell BK130.out 0).trans rfl; have hcz6_1 : w5.cell? ⟨gb130, 1, none⟩ = some (.slice A0_1 l0_1.length c0_1) := (blk_cell BK130.out 1).trans rfl; have hfz6_0 := blk_frozen BK130.out 0; have hfz6_1 := blk_frozen BK130.out 1) | ((with_reducible refine gate_callee (f := 32) rfl ?_); refine goesL_ (some 10) rfl rfl Try.func32 (by kernel_rfl) rfl #[.agg #[.int .i64 a0_0, .slice A0_1 l0_1.length c0_1], .int .i64 a1] rfl (by (try simp only [List.map_toArray, List.map_cons, List.map_nil]); first | done | rfl | (simp only [List.length_drop, List.length_take]; rfl)) ?_; (with_reducible refine (spec_shMember.calls k a0_0 _ _ l0_1 a1 true _ ?side1 ?side2 A3.out).mono ?_); (case side1 => repeat (first | exact (Kd.C_below HR0_1.out HB.out) | (with_reducible refine Kd.C_alloc ?_ _) | (with_reducible refine Kd.C_drewN ?_ _) | (with_reducible refine Kd.C_drew ?_))); (case side2 => exact HC0_1.out); rintro e w7 ⟨rfl, hb⟩; refine ⟨_, rfl, ?_⟩; have n0_ := Aside0.mk (blk_below (g := gb130) (o := .cells #[.int .i64 a0_0, .slice A0_1 l0_1.length c0_1] 28 (0, 0)) (by (with_reducible repeat (first | refine blk_drewN ?_ _ | refine blk_drew ?_ | refine blk_alloc ?_ _)); exact BK130.out) hb); have n1_ := Aside0.mk (below_step (by repeat (first | (with_reducible first | exact HB.out | apply below_alloc | apply pw_below_drewN | apply below_drew1 | refine below_set ?_ GE130.out) | exact HB.out)) hb); clear BK130; clear HB; have BK130 := n0_; have HB := n1_; clear n0_ n1_; (try clear hb); (try clear hb2); (try clear hk); (try clear hi)))
    go_loopg [6, 7] k (fun kq v6 v7 w' => ∃ (x6_1 : List Int) (x7_1 : Int), v7 = .int .i64 x7_1 ∧ Aside0 (spec_DummyQuotas.l0 kq a1 x6_1 x7_1 a0_0 l0_1 = some (r1, r2)) ∧ Aside0 (kq ≤ k) ∧ Aside0 (Kd.R (Kd.int .i64) 3 w' w.heap.size (fun _ => True) v6 x6_1) ∧ Aside0 (w'.heap[gb130]? = some (.cells #[.int .i64 a0_0, (.slice A0_1 l0_1.length c0_1)] 28 (0, 0))) ∧ Aside0 (Below w.heap.size w w'))
    case atStart => exact ⟨(([] : List Int)), (1), (by first | rfl | (simp; done) | (simp [*]; done)), H', ⟨Nat.le_refl _⟩, ⟨by first | exact Kd.R_nil _ _ _ _ _ | exact Kd.N_nil _ _ _ _ _ | exact Kd.V_nil _ _ _ _ _ | exact Kd.Q_nil _ _ _ _ _ | exact Kd.S_nil _ _ _ _ _⟩, ⟨by (with_reducible repeat (first | refine blk_drewN ?_ _ | refine blk_drew ?_ | refine blk_alloc ?_ _)); exact BK130.out⟩, ⟨by repeat (first | (with_reducible first | exact HB.out | apply below_alloc | apply pw_below_drewN | apply below_drew1 | refine below_set ?_ GE130.out) | exact HB.out)⟩⟩
    case round =>
      clear H'
      try clear p2
      try clear c3
      try clear c4
      try clear hcz6_0
      try clear hcz6_1
      try clear hfz6_0
      try clear hfz6_1
      obtain ⟨x6_1, x7_1, rfl, HA, HK1, HO_6, BK130, HB⟩ := hrel
      cases gk with
      | zero => exact absurd HA.out (by simp [spec_DummyQuotas.l0])
      | succ k1 =>
        have H := HA.out
        clear HA
        simp only [spec_DummyQuotas.l0] at H
        replace H := Option.bind_eq_some_iff.mp H
        obtain ⟨t132, A80, H⟩ := H
        replace H : (if x7_1 ≤ t132 then ((spec_voWins.f k1 x7_1 l0_1).bind fun t133 => ((spec_pwSwings.f k1 t133 a1).bind fun t136 => (if (t136.length : Int) = 0 then (if x6_1.length < 17592186044416 then (spec_DummyQuotas.l0 k1 a1 (x6_1 ++ [x7_1]) (wrap64 (x7_1 + 1)) a0_0 l0_1) else (none)) else (spec_DummyQuotas.l0 k1 a1 x6_1 (wrap64 (x7_1 + 1)) a0_0 l0_1)))) else (some (x6_1, true))) = some (r1, r2) := H
        have A8 := Aside0.mk A80
        clear A80
        by_cases c9 : x7_1 ≤ t132
        · rw [if_pos c9] at H
          have c9b0 : decide (x7_1 ≤ t132) = true := decide_eq_true c9
          clear c9
          replace H := Option.bind_eq_some_iff.mp H
          obtain ⟨t133, A100, H⟩ := H
          replace H : ((spec_pwSwings.f k1 t133 a1).bind fun t136 => (if (t136.length : Int) = 0 then (if x6_1.length < 17592186044416 then (spec_DummyQuotas.l0 k1 a1 (x6_1 ++ [x7_1]) (wrap64 (x7_1 + 1)) a0_0 l0_1) else (none)) else (spec_DummyQuotas.l0 k1 a1 x6_1 (wrap64 (x7_1 + 1)) a0_0 l0_1))) = some (r1, r2) := H
          have A10 := Aside0.mk A100
          clear A100
          replace H := Option.bind_eq_some_iff.mp H
          obtain ⟨t136, A110, H⟩ := H
          replace H : (if (t136.length : Int) = 0 then (if x6_1.length < 17592186044416 then (spec_DummyQuotas.l0 k1 a1 (x6_1 ++ [x7_1]) (wrap64 (x7_1 + 1)) a0_0 l0_1) else (none)) else (spec_DummyQuotas.l0 k1 a1 x6_1 (wrap64 (x7_1 + 1)) a0_0 l0_1)) = some (r1, r2) := H
          have A11 := Aside0.mk A110
          clear A110
          by_cases c12 : (t136.length : Int) = 0
          · rw [if_pos c12] at H
            have c12b0 : ((t136.length : Int) == 0) = true := beq_iff_eq.mpr c12
            have c12b1 : ((t136.length : Int) != 0) = false := bne_eq_false_iff_eq.mpr c12
            clear c12
            by_cases c13 : x6_1.length < 17592186044416
            · rw [if_pos c13] at H
              have LMc13 := Aside0.mk c13
              clear c13
              obtain ⟨y139, hy139⟩ : ∃ y_ : List Int, y_ = (x6_1 ++ [x7_1]) := ⟨_, rfl⟩
              replace H : (spec_DummyQuotas.l0 k1 a1 y139 (wrap64 (x7_1 + 1)) a0_0 l0_1) = some (r1, r2) := by first | (rw [hy139]; with_reducible exact H) | (have H2_ := (Option.bind_some _ _).symm.trans H; rw [hy139]; with_reducible exact H2_) | (have H2_ := (Option.bind_some _ _).symm.trans H; with_reducible exact H2_) | with_reducible exact H | (rw [hy139]; exact H) | exact H
              have Ny139 := Aside0.mk hy139
              clear hy139
              have H' := Aside0.mk H
              clear H
              have hcz14_0 : wr.cell? ⟨gb130, 0, none⟩ = some (.int .i64 a0_0) := (blk_cell BK130.out 0).trans rfl
              have hcz14_1 : wr.cell? ⟨gb130, 1, none⟩ = some (.slice A0_1 l0_1.length c0_1) := (blk_cell BK130.out 1).trans rfl
              have hfz14_0 := blk_frozen BK130.out 0
              have hfz14_1 := blk_frozen BK130.out 1
              go_wp2_with (first | ((with_reducible refine gate_callee (f := 33) rfl ?_); refine goesL_ (some 15) rfl rfl Try.func33 (by kernel_rfl) rfl #[.slice A0_1 l0_1.length c0_1] rfl (by (try simp only [List.map_toArray, List.map_cons, List.map_nil]); first | done | rfl | (simp only [List.length_drop, List.length_take]; rfl)) ?_; (with_reducible refine (spec_voSum.calls k1 _ _ l0_1 t132 _ ?side1 ?side2 A8.out).mono ?_); (case side1 => repeat (first | exact (Kd.C_below HR0_1.out HB.out) | (with_reducible refine Kd.C_alloc ?_ _) | (with_reducible refine Kd.C_drewN ?_ _) | (with_reducible refine Kd.C_drew ?_))); (case side2 => exact HC0_1.out); rintro e w' ⟨rfl, ⟨nd, rfl⟩⟩; refine ⟨_, rfl, ?_⟩) | ((with_reducible refine gate_callee (f := 35) rfl ?_); refine goesL_ (some 23) rfl rfl Try.func35 (by kernel_rfl) rfl #[.agg #[.int .i64 x7_1, .slice A0_1 l0_1.length c0_1]] rfl (by (try simp only [List.map_toArray, List.map_cons, List.map_nil]); first | done | rfl | (simp only [List.length_drop, List.length_take]; rfl)) ?_; (with_reducible refine (spec_voWins.calls k1 x7_1 _ _ l0_1 t133 _ ?side1 ?side2 A10.out).mono ?_); (case side1 => repeat (first | exact (Kd.C_below HR0_1.out (by repeat (first | (with_reducible first | exact HB.out | apply below_alloc | apply pw_below_drewN | apply below_drew1 | refine below_set ?_ GE130.out) | exact HB.out))) | (with_reducible refine Kd.C_alloc ?_ _) | (with_reducible refine Kd.C_drewN ?_ _) | (with_reducible refine Kd.C_drew ?_))); (case side2 => exact HC0_1.out); rintro e w15 ⟨v134, rfl, ho0, hb⟩; refine ⟨_, rfl, ?_⟩; have n0_ := Aside0.mk (Kd.R_below (by (with_reducible repeat (first | apply Kd.R_alloc | apply Kd.R_drewN | apply Kd.R_drew)); exact HO_6.out) hb); have n1_ := Aside0.mk (Kd.R_lower ho0 (below_size (by repeat (first | (with_reducible first | exact HB.out | apply below_alloc | apply pw_below_drewN | apply below_drew1 | refine below_set ?_ GE130.out) | exact HB.out)))); have n2_ := Aside0.mk (blk_below (g := gb130) (o := .cells #[.int .i64 a0_0, .slice A0_1 l0_1.length c0_1] 28 (0, 0)) (by (with_reducible repeat (first | refine blk_drewN ?_ _ | refine blk_drew ?_ | refine blk_alloc ?_ _)); exact BK130.out) hb); have n3_ := Aside0.mk (below_step (by repeat (first | (with_reducible first | exact HB.out | apply below_alloc | apply pw_below_drewN | apply below_drew1 | refine below_set ?_ GE130.out) | exact HB.out)) hb); clear HO_6; clear BK130; clear HB; have HO_6 := n0_; have HO135 := n1_; have BK130 := n2_; have HB := n3_; clear n0_ n1_ n2_ n3_; (try clear hb); (try clear hb2); (try clear hk); (try clear hi); (try clear ho0); obtain ⟨Ao16, co16, eo16⟩ := Kd.R_slice HO135.out; subst eo16) | ((with_reducible refine gate_callee (f := 34) rfl ?_); refine goesL_ (some 25) rfl rfl Try.func34 (by kernel_rfl) rfl #[.slice Ao16 t133.length co16, .int .i64 a1] rfl (by (try simp only [List.map_toArray, List.map_cons, List.map_nil]); first | done | rfl | (simp only [List.length_drop, List.length_take]; rfl)) ?_; (with_reducible refine (spec_pwSwings.calls k1 _ _ t133 a1 t136 _ ?side1 ?side2 A11.out).mono ?_); (case side1 => repeat (first | exact (Kd.R_reads' HO135.out).2.2 | (with_reducible refine Kd.C_alloc ?_ _) | (with_reducible refine Kd.C_drewN ?_ _) | (with_reducible refine Kd.C_drew ?_))); (case side2 => exact (Kd.R_reads' HO135.out).2.1); rintro e w17 ⟨v137, rfl, ho0, hb⟩; refine ⟨_, rfl, ?_⟩; have n0_ := Aside0.mk (Kd.R_elder' (by (with_reducible repeat (first | apply Kd.R_alloc | apply Kd.R_drewN | apply Kd.R_drew)); exact HO_6.out) (Kd.R_base ho0) hb); have n1_ := Aside0.mk (Kd.R_below (by (with_reducible repeat (first | apply Kd.R_alloc | apply Kd.R_drewN | apply Kd.R_drew)); exact HO135.out) hb); have n2_ := Aside0.mk (Kd.R_lower (Kd.R_new' ho0 (Kd.R_lt (by (with_reducible repeat (first | apply Kd.R_alloc | apply Kd.R_drewN | apply Kd.R_drew)); exact HO_6.out))) (below_size (by repeat (first | (with_reducible first | exact HB.out | apply below_alloc | apply pw_below_drewN | apply below_drew1 | refine below_set ?_ GE130.out) | exact HB.out)))); have n3_ := Aside0.mk (blk_below (g := gb130) (o := .cells #[.int .i64 a0_0, .slice A0_1 l0_1.length c0_1] 28 (0, 0)) (by (with_reducible repeat (first | refine blk_drewN ?_ _ | refine blk_drew ?_ | refine blk_alloc ?_ _)); exact BK130.out) hb); have n4_ := Aside0.mk (below_step (by repeat (first | (with_reducible first | exact HB.out | apply below_alloc | apply pw_below_drewN | apply below_drew1 | refine below_set ?_ GE130.out) | exact HB.out)) hb); clear HO_6; clear HO135; clear BK130; clear HB; have HO_6 := n0_; have HO135 := n1_; have HO138 := n2_; have BK130 := n3_; have HB := n4_; clear n0_ n1_ n2_ n3_ n4_; (try clear hb); (try clear hb2); (try clear hk); (try clear hi); (try clear ho0); obtain ⟨Ao18, co18, eo18⟩ := Kd.R_slice HO138.out; subst eo18) | ((with_reducible refine gate_builtin (b := .append) (xs := #[.tmp 28, .tmp 30]) rfl ?_); at_builtin; refine Kd.R_append (Kd.int .i64) (w0 := w) w.heap.size rfl (.tmp 28) (.tmp 30) 22 3 (.int .i64 0) 8 rfl Try.underlying22 info3 rfl (by decide) (by omega) u6 x6_1 x7_1 [.int .i64 x7_1] (fun k_ => some k_ ≠ (.slice Ao18 t136.length co18 : Value).ownBlock) (fun _ => False) rfl rfl ?aP (fun _ hk => hk.elim) ?aF ?aO ?aB ?aS ?aL ?_; (case aP => exact rfl); (case aB => exact (by repeat (first | (with_reducible first | exact HB.out | apply below_alloc | apply pw_below_drewN | apply below_drew1 | refine below_set ?_ GE130.out) | exact HB.out))); (case aF => exact (fun k_ hk => Kd.fresh' (Kd.R_lt (by (with_reducible repeat (first | apply Kd.R_alloc | apply Kd.R_drewN | apply Kd.R_drew)); exact HO138.out)) k_ hk)); (case aO => exact (by (with_reducible repeat (first | apply Kd.R_alloc | apply Kd.R_drewN | apply Kd.R_drew)); exact Kd.R_mono HO_6.out (fun _ hk => hk.2))); (case aS => exact (below_size (by repeat (first | (with_reducible first | exact HB.out | apply below_alloc | apply pw_below_drewN | apply below_drew1 | refine below_set ?_ GE130.out) | exact HB.out)))); (case aL => have := LMc13.out; omega); intro v140 w19 ho hb hg hat; rw [← Ny139.out] at ho; have n0_ := Aside0.mk (blk_grown (g := gb130) (o := .cells #[.int .i64 a0_0, .slice A0_1 l0_1.length c0_1] 28 (0, 0)) (by (with_reducible repeat (first | refine blk_drewN ?_ _ | refine blk_drew ?_ | refine blk_alloc ?_ _)); exact BK130.out) hg (Kd.R_ne HO_6.out BK130.out (by decide))); have n1_ := Aside0.mk (Kd.R_over' (by (with_reducible repeat (first | apply Kd.R_alloc | apply Kd.R_drewN | apply Kd.R_drew)); exact HO135.out) (Kd.R_typed (by (with_reducible repeat (first | apply Kd.R_alloc | apply Kd.R_drewN | apply Kd.R_drew)); exact HO_6.out)) (by decide) hg); have n2_ := Aside0.mk (Kd.R_after (ok := (fun _ => True)) (by (with_reducible repeat (first | apply Kd.R_alloc | apply Kd.R_drewN | apply Kd.R_drew)); exact HO138.out) hg hat); have n3_ := Aside0.mk (hb); have n4_ := Aside0.mk (ho); clear BK130; clear HO135; clear HO138; clear HB; clear HO_6; have BK130 := n0_; have HO135 := n1_; have HO138 := n2_; have HB := n3_; have HO141 := n4_; clear n0_ n1_ n2_ n3_ n4_; clear ho hb hg hat))
              go_roundg k1
              case measure => have := HK1.out; omega
              case rel => exact ⟨(y139), (wrap64 (x7_1 + 1)), (by first | rfl | (simp; done) | (simp [*]; done)), H', ⟨by have := HK1.out; omega⟩, ⟨by (with_reducible repeat (first | apply Kd.R_alloc | apply Kd.R_drewN | apply Kd.R_drew)); exact Kd.R_mono HO141.out (fun _ hk => trivial)⟩, ⟨by (with_reducible repeat (first | refine blk_drewN ?_ _ | refine blk_drew ?_ | refine blk_alloc ?_ _)); exact BK130.out⟩, ⟨by repeat (first | (with_reducible first | exact HB.out | apply below_alloc | apply pw_below_drewN | apply below_drew1 | refine below_set ?_ GE130.out) | exact HB.out)⟩⟩
            · rw [if_neg c13] at H
              exact absurd H (by simp)
          · rw [if_neg c12] at H
            have c12b0 : ((t136.length : Int) == 0) = false := beq_eq_false_iff_ne.mpr c12
            have c12b1 : ((t136.length : Int) != 0) = true := bne_iff_ne.mpr c12
            have c12b2 : ¬ (t136 = []) := fun h_ => c12 (by rw [h_]; rfl)
            have H' := Aside0.mk H
            clear H
            have hcz20_0 : wr.cell? ⟨gb130, 0, none⟩ = some (.int .i64 a0_0) := (blk_cell BK130.out 0).trans rfl
            have hcz20_1 : wr.cell? ⟨gb130, 1, none⟩ = some (.slice A0_1 l0_1.length c0_1) := (blk_cell BK130.out 1).trans rfl
            have hfz20_0 := blk_frozen BK130.out 0
            have hfz20_1 := blk_frozen BK130.out 1
            go_wp2_with (first | ((with_reducible refine gate_callee (f := 33) rfl ?_); refine goesL_ (some 15) rfl rfl Try.func33 (by kernel_rfl) rfl #[.slice A0_1 l0_1.length c0_1] rfl (by (try simp only [List.map_toArray, List.map_cons, List.map_nil]); first | done | rfl | (simp only [List.length_drop, List.length_take]; rfl)) ?_; (with_reducible refine (spec_voSum.calls k1 _ _ l0_1 t132 _ ?side1 ?side2 A8.out).mono ?_); (case side1 => repeat (first | exact (Kd.C_below HR0_1.out HB.out) | (with_reducible refine Kd.C_alloc ?_ _) | (with_reducible refine Kd.C_drewN ?_ _) | (with_reducible refine Kd.C_drew ?_))); (case side2 => exact HC0_1.out); rintro e w' ⟨rfl, ⟨nd, rfl⟩⟩; refine ⟨_, rfl, ?_⟩) | ((with_reducible refine gate_callee (f := 35) rfl ?_); refine goesL_ (some 23) rfl rfl Try.func35 (by kernel_rfl) rfl #[.agg #[.int .i64 x7_1, .slice A0_1 l0_1.length c0_1]] rfl (by (try simp only [List.map_toArray, List.map_cons, List.map_nil]); first | done | rfl | (simp only [List.length_drop, List.length_take]; rfl)) ?_; (with_reducible refine (spec_voWins.calls k1 x7_1 _ _ l0_1 t133 _ ?side1 ?side2 A10.out).mono ?_); (case side1 => repeat (first | exact (Kd.C_below HR0_1.out (by repeat (first | (with_reducible first | exact HB.out | apply below_alloc | apply pw_below_drewN | apply below_drew1 | refine below_set ?_ GE130.out) | exact HB.out))) | (with_reducible refine Kd.C_alloc ?_ _) | (with_reducible refine Kd.C_drewN ?_ _) | (with_reducible refine Kd.C_drew ?_))); (case side2 => exact HC0_1.out); rintro e w21 ⟨v134, rfl, ho0, hb⟩; refine ⟨_, rfl, ?_⟩; have n0_ := Aside0.mk (Kd.R_below (by (with_reducible repeat (first | apply Kd.R_alloc | apply Kd.R_drewN | apply Kd.R_drew)); exact HO_6.out) hb); have n1_ := Aside0.mk (Kd.R_lower ho0 (below_size (by repeat (first | (with_reducible first | exact HB.out | apply below_alloc | apply pw_below_drewN | apply below_drew1 | refine below_set ?_ GE130.out) | exact HB.out)))); have n2_ := Aside0.mk (blk_below (g := gb130) (o := .cells #[.int .i64 a0_0, .slice A0_1 l0_1.length c0_1] 28 (0, 0)) (by (with_reducible repeat (first | refine blk_drewN ?_ _ | refine blk_drew ?_ | refine blk_alloc ?_ _)); exact BK130.out) hb); have n3_ := Aside0.mk (below_step (by repeat (first | (with_reducible first | exact HB.out | apply below_alloc | apply pw_below_drewN | apply below_drew1 | refine below_set ?_ GE130.out) | exact HB.out)) hb); clear HO_6; clear BK130; clear HB; have HO_6 := n0_; have HO135 := n1_; have BK130 := n2_; have HB := n3_; clear n0_ n1_ n2_ n3_; (try clear hb); (try clear hb2); (try clear hk); (try clear hi); (try clear ho0); obtain ⟨Ao22, co22, eo22⟩ := Kd.R_slice HO135.out; subst eo22) | ((with_reducible refine gate_callee (f := 34) rfl ?_); refine goesL_ (some 25) rfl rfl Try.func34 (by kernel_rfl) rfl #[.slice Ao22 t133.length co22, .int .i64 a1] rfl (by (try simp only [List.map_toArray, List.map_cons, List.map_nil]); first | done | rfl | (simp only [List.length_drop, List.length_take]; rfl)) ?_; (with_reducible refine (spec_pwSwings.calls k1 _ _ t133 a1 t136 _ ?side1 ?side2 A11.out).mono ?_); (case side1 => repeat (first | exact (Kd.R_reads' HO135.out).2.2 | (with_reducible refine Kd.C_alloc ?_ _) | (with_reducible refine Kd.C_drewN ?_ _) | (with_reducible refine Kd.C_drew ?_))); (case side2 => exact (Kd.R_reads' HO135.out).2.1); rintro e w23 ⟨v137, rfl, ho0, hb⟩; refine ⟨_, rfl, ?_⟩; have n0_ := Aside0.mk (Kd.R_elder' (by (with_reducible repeat (first | apply Kd.R_alloc | apply Kd.R_drewN | apply Kd.R_drew)); exact HO_6.out) (Kd.R_base ho0) hb); have n1_ := Aside0.mk (Kd.R_below (by (with_reducible repeat (first | apply Kd.R_alloc | apply Kd.R_drewN | apply Kd.R_drew)); exact HO135.out) hb); have n2_ := Aside0.mk (Kd.R_lower (Kd.R_new' ho0 (Kd.R_lt (by (with_reducible repeat (first | apply Kd.R_alloc | apply Kd.R_drewN | apply Kd.R_drew)); exact HO_6.out))) (below_size (by repeat (first | (with_reducible first | exact HB.out | apply below_alloc | apply pw_below_drewN | apply below_drew1 | refine below_set ?_ GE130.out) | exact HB.out)))); have n3_ := Aside0.mk (blk_below (g := gb130) (o := .cells #[.int .i64 a0_0, .slice A0_1 l0_1.length c0_1] 28 (0, 0)) (by (with_reducible repeat (first | refine blk_drewN ?_ _ | refine blk_drew ?_ | refine blk_alloc ?_ _)); exact BK130.out) hb); have n4_ := Aside0.mk (below_step (by repeat (first | (with_reducible first | exact HB.out | apply below_alloc | apply pw_below_drewN | apply below_drew1 | refine below_set ?_ GE130.out) | exact HB.out)) hb); clear HO_6; clear HO135; clear BK130; clear HB; have HO_6 := n0_; have HO135 := n1_; have HO138 := n2_; have BK130 := n3_; have HB := n4_; clear n0_ n1_ n2_ n3_ n4_; (try clear hb); (try clear hb2); (try clear hk); (try clear hi); (try clear ho0); obtain ⟨Ao24, co24, eo24⟩ := Kd.R_slice HO138.out; subst eo24))
            go_roundg k1
            case measure => have := HK1.out; omega
            case rel => exact ⟨(x6_1), (wrap64 (x7_1 + 1)), (by first | rfl | (simp; done) | (simp [*]; done)), H', ⟨by have := HK1.out; omega⟩, ⟨by (with_reducible repeat (first | apply Kd.R_alloc | apply Kd.R_drewN | apply Kd.R_drew)); exact Kd.R_mono HO_6.out (fun _ hk => trivial)⟩, ⟨by (with_reducible repeat (first | refine blk_drewN ?_ _ | refine blk_drew ?_ | refine blk_alloc ?_ _)); exact BK130.out⟩, ⟨by repeat (first | (with_reducible first | exact HB.out | apply below_alloc | apply pw_below_drewN | apply below_drew1 | refine below_set ?_ GE130.out) | exact HB.out)⟩⟩
        · rw [if_neg c9] at H
          have c9b0 : decide (x7_1 ≤ t132) = false := decide_eq_false c9
          clear c9
          simp only [Option.some.injEq, Prod.mk.injEq] at H
          obtain ⟨rfl, rfl⟩ := H
          have hcz25_0 : wr.cell? ⟨gb130, 0, none⟩ = some (.int .i64 a0_0) := (blk_cell BK130.out 0).trans rfl
          have hcz25_1 : wr.cell? ⟨gb130, 1, none⟩ = some (.slice A0_1 l0_1.length c0_1) := (blk_cell BK130.out 1).trans rfl
          have hfz25_0 := blk_frozen BK130.out 0
          have hfz25_1 := blk_frozen BK130.out 1
          go_wp2_with (first | ((with_reducible refine gate_callee (f := 33) rfl ?_); refine goesL_ (some 15) rfl rfl Try.func33 (by kernel_rfl) rfl #[.slice A0_1 l0_1.length c0_1] rfl (by (try simp only [List.map_toArray, List.map_cons, List.map_nil]); first | done | rfl | (simp only [List.length_drop, List.length_take]; rfl)) ?_; (with_reducible refine (spec_voSum.calls k1 _ _ l0_1 t132 _ ?side1 ?side2 A8.out).mono ?_); (case side1 => repeat (first | exact (Kd.C_below HR0_1.out HB.out) | (with_reducible refine Kd.C_alloc ?_ _) | (with_reducible refine Kd.C_drewN ?_ _) | (with_reducible refine Kd.C_drew ?_))); (case side2 => exact HC0_1.out); rintro e w' ⟨rfl, ⟨nd, rfl⟩⟩; refine ⟨_, rfl, ?_⟩))
          go_ret2
          exact ⟨_, by first | rfl | (simp [errW_none, errW_some] <;> rfl) | (simp [*, errW_none, errW_some] <;> rfl), by (with_reducible repeat (first | apply Kd.R_alloc | apply Kd.R_drewN | apply Kd.R_drew)); exact HO_6.out, by repeat (first | (with_reducible first | exact HB.out | apply below_alloc | apply pw_below_drewN | apply below_drew1 | refine below_set ?_ GE130.out) | exact HB.out)⟩
  · replace c4 := Bool.eq_false_iff.mpr c4
    subst c4
    have H1 : (some (([] : List Int), false)) = some (r1, r2) := by rw [if_neg (show ¬ (false = true) by decide)] at H; exact H
    clear H
    have H := H1
    clear H1
    simp only [Option.some.injEq, Prod.mk.injEq] at H
    obtain ⟨rfl, rfl⟩ := H
    go_enter Try.func9, Try.ntmps9
    go_wp2_with (first | ((with_reducible refine gate_dst (N := 2) rfl ?_); refine box_event ?hg (N := 2) ?hd (cs := #[.int .i64 a0_0, .slice A0_1 l0_1.length c0_1]) (t := 28) ?hr ?_; (case hd => rfl); (case hg => rfl); (case hr => first | (go_simp; done) | (go_simp; rfl)); intro gb130 hg w26 hbox hb; have n0_ := Aside0.mk (below_step (by repeat (first | (with_reducible first | exact HB.out | apply below_alloc | apply pw_below_drewN | apply below_drew1) | exact HB.out)) hb); have n1_ := Aside0.mk (hbox); have n2_ := Aside0.mk ((by rw [hg]; exact (below_size (by repeat (first | (with_reducible first | exact HB.out | apply below_alloc | apply pw_below_drewN | apply below_drew1) | exact HB.out))) : w.heap.size ≤ gb130)); have n3_ := Aside0.mk ((by rw [hg]; exact (below_size (by repeat (first | (with_reducible first | exact HB.out | apply below_alloc | apply pw_below_drewN | apply below_drew1) | exact HB.out))) : w.heap.size ≤ gb130)); clear HB; have HB := n0_; have BK130 := n1_; have GW130 := n2_; have GE130 := n3_; clear n0_ n1_ n2_ n3_; clear hb hbox hg; have hcz27_0 : w26.cell? ⟨gb130, 0, none⟩ = some (.int .i64 a0_0) := (blk_cell BK130.out 0).trans rfl; have hcz27_1 : w26.cell? ⟨gb130, 1, none⟩ = some (.slice A0_1 l0_1.length c0_1) := (blk_cell BK130.out 1).trans rfl; have hfz27_0 := blk_frozen BK130.out 0; have hfz27_1 := blk_frozen BK130.out 1) | ((with_reducible refine gate_callee (f := 32) rfl ?_); refine goesL_ (some 10) rfl rfl Try.func32 (by kernel_rfl) rfl #[.agg #[.int .i64 a0_0, .slice A0_1 l0_1.length c0_1], .int .i64 a1] rfl (by (try simp only [List.map_toArray, List.map_cons, List.map_nil]); first | done | rfl | (simp only [List.length_drop, List.length_take]; rfl)) ?_; (with_reducible refine (spec_shMember.calls k a0_0 _ _ l0_1 a1 false _ ?side1 ?side2 A3.out).mono ?_); (case side1 => repeat (first | exact (Kd.C_below HR0_1.out HB.out) | (with_reducible refine Kd.C_alloc ?_ _) | (with_reducible refine Kd.C_drewN ?_ _) | (with_reducible refine Kd.C_drew ?_))); (case side2 => exact HC0_1.out); rintro e w28 ⟨rfl, hb⟩; refine ⟨_, rfl, ?_⟩; have n0_ := Aside0.mk (blk_below (g := gb130) (o := .cells #[.int .i64 a0_0, .slice A0_1 l0_1.length c0_1] 28 (0, 0)) (by (with_reducible repeat (first | refine blk_drewN ?_ _ | refine blk_drew ?_ | refine blk_alloc ?_ _)); exact BK130.out) hb); have n1_ := Aside0.mk (below_step (by repeat (first | (with_reducible first | exact HB.out | apply below_alloc | apply pw_below_drewN | apply below_drew1 | refine below_set ?_ GE130.out) | exact HB.out)) hb); clear BK130; clear HB; have BK130 := n0_; have HB := n1_; clear n0_ n1_; (try clear hb); (try clear hb2); (try clear hk); (try clear hi)))
    go_ret2
    exact ⟨_, by first | rfl | (simp [errW_none, errW_some] <;> rfl) | (simp [*, errW_none, errW_some] <;> rfl), by first | exact Kd.R_nil _ _ _ _ _ | exact Kd.N_nil _ _ _ _ _ | exact Kd.V_nil _ _ _ _ _ | exact Kd.Q_nil _ _ _ _ _ | exact Kd.S_nil _ _ _ _ _, by repeat (first | (with_reducible first | exact HB.out | apply below_alloc | apply pw_below_drewN | apply below_drew1 | refine below_set ?_ GE130.out) | exact HB.out)⟩

/-! ### impl_Committee_quotas: function 38 -/
/-- The quotas from 1 to n for which p is true. -/
def pickQ (p : Int → Bool) (n : Nat) : List Int := ((List.range n).filter fun (i : Nat) => p ((i : Int) + 1)).map fun (i : Nat) => (i : Int) + 1
theorem pickQ_succ (p : Int → Bool) (n : Nat) : pickQ p (n + 1) = if p ((n : Int) + 1) = true then pickQ p n ++ [(n : Int) + 1] else pickQ p n := by
  unfold pickQ
  rw [List.range_succ, List.filter_append, List.map_append]
  cases h : p ((n : Int) + 1) <;> simp [h]
theorem pickQ_length (p : Int → Bool) (n : Nat) : (pickQ p n).length ≤ n := by
  unfold pickQ
  rw [List.length_map]
  have := List.length_filter_le (fun (i : Nat) => p ((i : Int) + 1)) (List.range n)
  simpa using this
set_option maxHeartbeats 4000000 in
theorem impl_Committee_quotas.hof (g : Nat) (lb : Array Value) (eg : ∀ args w, (callFunc g args).run Try.prog w = .ok (.enter g args) w) (p : Int → Bool) (a0 : Int) (A : Option Addr) (c : Nat) (l : List Int) (k s : Nat) (hs : impl_sumOf.f k l = some (s : Int)) (hs9 : s ≤ 100000) (w : World) (hr : Kd.C (Kd.int .i64) w A l.length l) (hc : l.length ≤ c)
    (hp : ∀ (W : World) (x : Int), 1 ≤ x → x ≤ s → Below w.heap.size w W → Calls Try.prog g (#[.agg #[.int .i64 x, .slice A l.length c]] ++ lb) W fun e w' => e = .returned (.bool (p x)) ∧ Below W.heap.size W w') :
    Calls Try.prog 38 #[.agg #[.int .i64 a0, .slice A l.length c], .func (.func g) #[] lb] w fun e w' => ∃ v0_ : Value, e = .returned (v0_) ∧ Kd.R (Kd.int .i64) 3 w' w.heap.size (fun _ => True) v0_ (pickQ p s) ∧ Below w.heap.size w w' := by
  have hu := Try.underlying28
  have hsum : ∀ W, Below w.heap.size w W → Calls Try.prog 66 #[.slice A l.length c] W fun e w' => e = .returned (.int .i64 (s : Int)) ∧ Drawn0 W w' := fun W hW => impl_sumOf.calls k A c l s W (Kd.C_below hr hW) hc hs
  have HSum := Aside0.mk hsum
  have HP := Aside0.mk hp
  clear hp hsum hs hr
  have HB := Aside0.mk (Below.refl w.heap.size w)
  go_enter Try.func38, Try.ntmps38
  go_wp2_with ((with_reducible refine gate_dst (N := 7) rfl ?_); refine Kd.R_lit (Kd.int .i64) _ 3 ?hg (N := 7) ?hd (xs := ([] : List Int)) (inner := []) (ok := fun _ => True) (okp := fun _ => True) ?hr ?hp (fun _ hk => hk) trivial (Below.refl _ _) (Nat.le_refl _) (by simp) ?_; (case hd => rfl); (case hg => rfl); (case hr => first | (go_simp; done) | (go_simp; rfl)); (case hp => exact (Reps.none _ _)); intro v199 w3 ho4 hb hg_ hnew_; clear hg_ hnew_; have B0 := Aside0.mk (blk_below (blk_new w _) hb); have n0_ := Aside0.mk (Kd.R_lower ho4 (below_size (below_alloc HB.out _))); have n1_ := Aside0.mk (below_step (below_alloc HB.out _) hb); clear HB; have HO := n0_; have HB := n1_; clear n0_ n1_; clear hb ho4)
  go_loopg [5, 6] s (fun gg s5 s6 wr => ∃ kk : Nat, kk ≤ s ∧ s - kk ≤ gg ∧ s6 = .int .i64 ((kk : Int) + 1) ∧ Aside0 (wr.heap[w.heap.size]? = some (.cells #[.int .i64 a0, .slice A l.length c] 28 (0, 0))) ∧ Aside0 (Below w.heap.size w wr) ∧ Aside0 (Kd.R (Kd.int .i64) 3 wr w.heap.size (fun _ => True) s5 (pickQ p kk)))
  case atStart => exact ⟨0, Nat.zero_le _, by omega, rfl, B0, HB, HO⟩
  case round =>
    obtain ⟨kk, hkk, hg, rfl, B0, BW, HO⟩ := hrel
    have hlt0 := blk_lt B0.out
    have hcz1 : wr.cell? ⟨w.heap.size, 1, none⟩ = some (.slice A l.length c) := (blk_cell B0.out 1).trans rfl
    have hfz1 := blk_frozen B0.out 1
    by_cases hlt : kk < s
    · have hltz : (kk : Int) + 1 ≤ (s : Int) := by omega
      have hl := pickQ_length p kk
      have hs := pickQ_succ p kk
      cases hq : p ((kk : Int) + 1) with
      | true =>
        rw [if_pos hq] at hs
        have HL := Aside0.mk hl
        have HS := Aside0.mk hs
        clear hl hs
        generalize pickQ p kk = ys at HO HS HL
        go_wp2_with (first | (go_at_call 66; refine (HSum.out _ BW.out).mono ?_; rintro e w1 ⟨rfl, ⟨nd, rfl⟩⟩) | (go_at_fn g; refine (HP.out _ ((kk : Int) + 1) (by omega) hltz (pw_below_drewN BW.out nd)).mono ?_; rintro e w2 ⟨he, hb2⟩; rw [hq] at he; subst he; have n0_ := Aside0.mk (Kd.R_below (Kd.R_drewN HO.out nd) hb2); have n1_ := Aside0.mk (below_step (pw_below_drewN BW.out nd) hb2); have n2_ := Aside0.mk (blk_below (blk_drewN B0.out nd) hb2); clear HO BW B0; have HO := n0_; have BW := n1_; have B0 := n2_; clear n0_ n1_ n2_ hb2 hcz1 hfz1 hlt0) | ((with_reducible refine gate_builtin (b := .append) (xs := #[.tmp 21, .tmp 23]) rfl ?_); at_builtin; refine Kd.R_append (Kd.int .i64) (w0 := w) w.heap.size rfl (.tmp 21) (.tmp 23) 22 3 (.int .i64 0) 8 rfl Try.underlying22 info3 rfl (by decide) (by omega) u5 ys ((kk : Int) + 1) [.int .i64 ((kk : Int) + 1)] (fun _ => True) (fun _ => False) rfl rfl ?aP (fun _ hk => hk.elim) ?aF ?aO ?aB ?aS ?aL ?_; (case aP => exact rfl); (case aB => exact BW.out); (case aF => exact (fun _ _ => trivial)); (case aO => exact HO.out); (case aS => exact (below_size BW.out)); (case aL => have := HL.out; omega); intro v202 w5 ho hb hg2 hat; rw [← HS.out] at ho; have n0_ := Aside0.mk (hb); have n1_ := Aside0.mk (ho); have n2_ := Aside0.mk (blk_grown (g := w.heap.size) B0.out hg2 (Kd.R_ne HO.out B0.out (by decide))); clear BW; clear HO; clear B0; have BW := n0_; have HO := n1_; have B0 := n2_; clear n0_ n1_ n2_; clear ho hb hg2 hat))
        go_roundg (s - (kk + 1))
        case measure => omega
        case rel => exact ⟨kk + 1, by omega, by omega, by go_num, B0, BW, HO⟩
      | false =>
        rw [if_neg (by simp [hq])] at hs
        have HS := Aside0.mk hs
        clear hl hs
        go_wp2_with (first | (go_at_call 66; refine (HSum.out _ BW.out).mono ?_; rintro e w1 ⟨rfl, ⟨nd, rfl⟩⟩) | (go_at_fn g; refine (HP.out _ ((kk : Int) + 1) (by omega) hltz (pw_below_drewN BW.out nd)).mono ?_; rintro e w2 ⟨he, hb2⟩; rw [hq] at he; subst he; have n0_ := Aside0.mk (Kd.R_below (Kd.R_drewN HO.out nd) hb2); have n1_ := Aside0.mk (below_step (pw_below_drewN BW.out nd) hb2); have n2_ := Aside0.mk (blk_below (blk_drewN B0.out nd) hb2); clear HO BW B0; have HO := n0_; have BW := n1_; have B0 := n2_; clear n0_ n1_ n2_ hb2 hcz1 hfz1 hlt0))
        go_roundg (s - (kk + 1))
        case measure => omega
        case rel => exact ⟨kk + 1, by omega, by omega, by go_num, B0, BW, by rw [HS.out]; exact HO⟩
    · have hltz : ¬ (kk : Int) + 1 ≤ (s : Int) := by omega
      obtain rfl : kk = s := by omega
      go_wp2_with (go_at_call 66; refine (HSum.out _ BW.out).mono ?_; rintro e w1 ⟨rfl, ⟨nd, rfl⟩⟩)
      go_ret
      exact ⟨_, rfl, Kd.R_drewN HO.out _, pw_below_drewN BW.out _⟩


-- NOT PRINTED: function 39 (impl_DummyQuotas_1)

/-! ### impl_DummyQuotas: function 11 -/
def dummyG (k : Nat) (l : List Int) (d : Nat) (x : Int) : Option Bool := (impl_Committee_votes.f x l).bind fun bt => (impl_votes_swings.f k bt.1 bt.2).bind fun ss => if d < ss.length then some (ss.getD d 0 == 0) else none
def dummyQ (k : Nat) (l : List Int) (d : Nat) (x : Int) : Bool := (dummyG k l d x).getD false
theorem dummyG_mono (l : List Int) (d : Nat) (x : Int) (k : Nat) : LeO (dummyG k l d x) (dummyG (k + 1) l d x) := LeO.bind (LeO.refl _) (fun _ => LeO.bind (impl_votes_swings.mono _ _ k) (fun _ => LeO.refl _))
set_option maxHeartbeats 4000000 in
theorem impl_DummyQuotas.lit (B : Nat) (A : Option Addr) (c : Nat) (l : List Int) (d k : Nat) (s : Nat) (hs : (List.range s).all (fun (i : Nat) => (dummyG k l d ((i : Int) + 1)).isSome) = true) (w : World)
    (h0 : w.cell? ⟨B, 0, none⟩ = some (.int .i64 (d : Int))) (hr : Kd.C (Kd.int .i64) w A l.length l) (hc : l.length ≤ c) :
    ∀ (W : World) (x : Int), 1 ≤ x → x ≤ s → Below w.heap.size w W → Calls Try.prog 39 (#[.agg #[.int .i64 x, .slice A l.length c]] ++ #[.pointer (some ⟨B, 0, none⟩)]) W fun e w' => e = .returned (.bool (dummyQ k l d x)) ∧ Below W.heap.size W w' := by
  intro W x hx0 hx1 hb
  have hu := Try.underlying28
  have hu2 := Try.underlying58
  have c0 : W.cell? ⟨B, 0, none⟩ = some (.int .i64 (d : Int)) := cell_later hb h0
  have hrW := Kd.C_below hr hb
  obtain ⟨m, hm⟩ := Int.eq_ofNat_of_zero_le (show 0 ≤ x - 1 by omega)
  have hsm := List.all_eq_true.1 hs m (List.mem_range.2 (by omega))
  rw [show (m : Int) + 1 = x by omega] at hsm
  obtain ⟨q, hq⟩ := Option.isSome_iff_exists.1 hsm
  have hq2 : dummyQ k l d x = q := by unfold dummyQ; rw [hq]; rfl
  unfold dummyG at hq
  obtain ⟨⟨nn, ws⟩, hv, hq⟩ := Option.bind_eq_some_iff.1 hq
  obtain ⟨ss, hsw, hq⟩ := Option.bind_eq_some_iff.1 hq
  split at hq
  case isFalse => cases hq
  rename_i hds
  replace hq := Option.some.inj hq
  rw [show ss.getD d 0 = ss[d] by simp [hds]] at hq
  rw [hq2, ← hq]
  have HV0 := Aside0.mk (fun (W' : World) (hW : Below W.heap.size W W') => impl_Committee_votes.calls x A c l nn ws W' (Kd.C_below hrW hW) hc hv)
  have HS := Aside0.mk (fun (A1 : Option Addr) (c1 : Nat) (W' : World) (hr1 : Kd.C Kd.bool W' A1 ws.length ws) (hc1 : ws.length ≤ c1) => impl_votes_swings.calls k nn A1 c1 ws ss W' hr1 hc1 hsw)
  have q0 : (0 ≤ (d : Int)) = True := eq_true (Int.natCast_nonneg _)
  have q1 : ((d : Int) < (ss.length : Int)) = True := eq_true (by omega)
  clear hq hq2 hsw hv hsm hm hs hr hrW h0 hb hx0 hx1
  show Calls Try.prog 39 #[.agg #[.int .i64 x, .slice A l.length c], .pointer (some ⟨B, 0, none⟩)] W _
  have hBb : Below W.heap.size W (W.alloc (.cells #[.int .i64 x, .slice A l.length c] 28)) := below_alloc (Below.refl _ _) _
  have bN := blk_new W (.cells #[.int .i64 x, .slice A l.length c] 28)
  have n0 : (W.alloc (.cells #[.int .i64 x, .slice A l.length c] 28)).cell? ⟨W.heap.size, 0, none⟩ = some (.int .i64 x) := (blk_cell bN 0).trans rfl
  have n1 : (W.alloc (.cells #[.int .i64 x, .slice A l.length c] 28)).cell? ⟨W.heap.size, 1, none⟩ = some (.slice A l.length c) := (blk_cell bN 1).trans rfl
  have m0 := cell_later hBb c0
  clear bN
  go_enter Try.func39, Try.ntmps39
  go_wp2_with fail
  generalize hWb : W.alloc (.cells #[.int .i64 x, .slice A l.length c] 28) = Wb at *
  have HBb := Aside0.mk hBb
  clear hBb hWb c0
  have HV := Aside0.mk (fun (W' : World) (hW : Below Wb.heap.size Wb W') => HV0.out W' (below_then HBb.out (by have := HBb.out.size; omega) hW))
  generalize hb0 : W.heap.size = b0 at *
  have hdr : Below Wb.heap.size Wb Wb.drew := below_drew1 (Below.refl _ _)
  refine start_ (n := 8) (S := fun w' => w'.cell? ⟨b0, 0, none⟩ = some (.int .i64 x) ∧ w'.cell? ⟨b0, 1, none⟩ = some (.slice A l.length c) ∧ w'.cell? ⟨B, 0, none⟩ = some (.int .i64 (d : Int))) (ds := [5]) #[false, false, false, false, false, false, false, false] (by kernel_rfl) rfl rfl ⟨cell_later hdr n0, cell_later hdr n1, cell_later hdr m0⟩ (fun hHeld => ?_)
  refine take_ (i := 0) (N := some 4) (v := ?_) (a' := ?_) #[true, false, false, false, false, false, false, false] rfl rfl (by kernel_rfl) (fun _ _ _ h => h) (Or.inl ⟨by rfl, ?_⟩) hHeld ?_ ?_
  rotate_left
  · rintro w' ⟨s0, s1, s2⟩
    go_simp
    with_reducible rfl
  rotate_left
  · simp only [Act.put, List.setIfInBounds_toArray, List.set_cons_zero, List.set_cons_succ, i64_w, i32_w]
    rfl
  refine take_ (i := 3) (N := some 7) (v := ?_) (a' := ?_) #[true, false, false, true, false, false, false, false] rfl rfl (by kernel_rfl) (fun _ _ _ h => h) (Or.inl ⟨by rfl, ?_⟩) hHeld ?_ ?_
  rotate_left
  · rintro w' ⟨s0, s1, s2⟩
    go_simp
    with_reducible rfl
  rotate_left
  · simp only [Act.put, List.setIfInBounds_toArray, List.set_cons_zero, List.set_cons_succ, i64_w, i32_w]
    rfl
  refine one_ (i := 1) (N := some 5) #[true, true, false, true, false, false, false, false] rfl rfl (by kernel_rfl) (by decide) (fun K hK => ?_)
  refine goes_ Try.func40 (by kernel_rfl) rfl #[.agg #[.int .i64 x, .slice A l.length c]] (by rfl) rfl rfl (by simp only [List.map_toArray, List.map_cons, List.map_nil]; rfl) ?_
  with_reducible refine (HV.out _ hdr).mono ?_
  rintro e w3 ⟨v1, rfl, hR1, hb1⟩
  refine ⟨_, rfl, ?_⟩
  obtain ⟨A1, c1, rfl⟩ := Kd.R_slice hR1
  obtain ⟨-, hc1, hr1⟩ := Kd.R_reads' hR1
  have hb1' := below_step hdr hb1
  clear hR1
  refine hK.out _ _ ⟨cell_later hb1' n0, cell_later hb1' n1, cell_later hb1' m0⟩ (fun hHeld => ?_)
  clear hK K
  refine norm_ (a' := ?_) ?_ ?_
  rotate_left
  · show Act.put _ (some 5) _ = _
    simp only [Act.put, List.setIfInBounds_toArray, List.set_cons_zero, List.set_cons_succ, i64_w, i32_w]
    rfl
  refine one_ (i := 2) (N := some 6) #[true, true, true, true, false, false, false, false] rfl rfl (by kernel_rfl) (by decide) (fun K hK => ?_)
  refine goes_ Try.func41 (by kernel_rfl) rfl #[.agg #[.int .i64 nn, .slice A1 ws.length c1]] (by rfl) rfl rfl (by simp only [List.map_toArray, List.map_cons, List.map_nil]; rfl) ?_
  with_reducible refine (HS.out A1 c1 _ hr1 hc1).mono ?_
  rintro e w4 ⟨v2, rfl, hR2, hb2⟩
  refine ⟨_, rfl, ?_⟩
  obtain ⟨A2, c2, rfl⟩ := Kd.R_slice hR2
  obtain ⟨-, hc2, hr2⟩ := Kd.R_reads' hR2
  have hb2' := below_step hb1' hb2
  obtain ⟨ad2, u2, eA2, hK2, hcell2⟩ := C_one (d := Kd.int .i64) rfl hr2 d hds
  cases eA2
  obtain rfl : u2 = .int .i64 ss[d] := by simpa [Kd.int, Kd.scalar] using hK2
  clear hR2 hK2
  refine hK.out _ _ ⟨cell_later hb2' n0, cell_later hb2' n1, cell_later hb2' m0⟩ (fun hHeld => ?_)
  clear hK K
  refine norm_ (a' := ?_) ?_ ?_
  rotate_left
  · show Act.put _ (some 6) _ = _
    simp only [Act.put, List.setIfInBounds_toArray, List.set_cons_zero, List.set_cons_succ, i64_w, i32_w]
    rfl
  refine pure_ (i := 4) (N := some 8) (v := ?_) (a' := ?_) #[true, true, true, true, true, false, false, false] rfl rfl (by kernel_rfl) (fun _ _ _ h => h) (Or.inl ⟨by rfl, ?_⟩) ?_ ?_
  rotate_left
  · intro w'
    go_simp
    with_reducible rfl
  rotate_left
  · simp only [Act.put, List.setIfInBounds_toArray, List.set_cons_zero, List.set_cons_succ, i64_w, i32_w]
    rfl
  refine last_ (i := 5) (N := some 9) #[true, true, true, true, true, true, false, false] rfl rfl (by kernel_rfl) (by decide) (fun K hK => ?_)
  refine value_ (w1 := ?_) (v := ?_) (by rfl) rfl ?_ ?_
  rotate_left 2
  · go_simp
    constructor
    · rfl
    · rfl
  refine hK.out _ _ ?_
  clear hK K
  refine norm_ (a' := ?_) ?_ ?_
  rotate_left
  · show Act.put _ (some 9) _ = _
    simp only [Act.put, List.setIfInBounds_toArray, List.set_cons_zero, List.set_cons_succ, i64_w, i32_w]
    rfl
  refine pure_ (i := 6) (N := some 10) (v := ?_) (a' := ?_) #[true, true, true, true, true, true, true, false] rfl rfl (by kernel_rfl) (fun _ _ _ h => h) (Or.inl ⟨by rfl, ?_⟩) ?_ ?_
  rotate_left
  · intro w'
    go_simp
    with_reducible rfl
  rotate_left
  · simp only [Act.put, List.setIfInBounds_toArray, List.set_cons_zero, List.set_cons_succ, i64_w, i32_w]
    rfl
  refine pure_ (i := 7) (N := some 3) (v := ?_) (a' := ?_) #[true, true, true, true, true, true, true, true] rfl rfl (by kernel_rfl) (fun _ _ _ h => h) (Or.inl ⟨by rfl, ?_⟩) ?_ ?_
  rotate_left
  · intro w'
    go_simp
    with_reducible rfl
  rotate_left
  · simp only [Act.put, List.setIfInBounds_toArray, List.set_cons_zero, List.set_cons_succ, i64_w, i32_w]
    rfl
  refine done_ (by kernel_rfl) ?_
  go_wp2
  go_ret
  refine ⟨rfl, ?_⟩
  subst hb0
  exact below_then HBb.out (by have := HBb.out.size; omega) hb2'
def impl_DummyQuotas.f (k : Nat) (a0_0 : Int) (l0_1 : List Int) (a1 : Int) : Option (List Int × Bool) := (impl_isScanned.f k a0_0 l0_1 60).bind fun b => if b = true then ((impl_isMember.f k a0_0 l0_1 a1).bind fun b2 => if b2 = true then ((impl_sumOf.f k l0_1).bind fun s => if (0 ≤ s ∧ s ≤ 100000 ∧ 0 ≤ a1 ∧ a1 < l0_1.length ∧ (List.range s.toNat).all (fun (i : Nat) => (dummyG k l0_1 a1.toNat ((i : Int) + 1)).isSome) = true) then some (pickQ (dummyQ k l0_1 a1.toNat) s.toNat, true) else none) else some ([], false)) else some ([], false)
theorem pickQ_same {p q : Int → Bool} {n : Nat} (h : ∀ i : Nat, i < n → p ((i : Int) + 1) = q ((i : Int) + 1)) : pickQ p n = pickQ q n := by
  unfold pickQ
  congr 1
  exact List.filter_congr (fun i hi => h i (List.mem_range.1 hi))
theorem impl_DummyQuotas.mono : ∀ a0 a1 a2 k, LeO (impl_DummyQuotas.f k a0 a1 a2) (impl_DummyQuotas.f (k + 1) a0 a1 a2) := fun a0 a1 a2 k => LeO.bind (impl_isScanned.mono a0 a1 60 k) (fun _ => LeO.ite (LeO.bind (impl_isMember.mono a0 a1 a2 k) (fun _ => LeO.ite (LeO.bind (impl_sumOf.mono _ k) (fun s => by
  intro r h
  split at h
  case isFalse => cases h
  rename_i hg
  obtain ⟨g1, g2, g3, g4, g5⟩ := hg
  obtain ⟨h1, h2⟩ := all_some (fun (i : Nat) => dummyG k a1 a2.toNat ((i : Int) + 1)) (fun (i : Nat) => dummyG (k + 1) a1 a2.toNat ((i : Int) + 1)) (List.range s.toNat) (fun i => dummyG_mono a1 a2.toNat _ k) g5
  rw [if_pos ⟨g1, g2, g3, g4, h1⟩, ← h]
  congr 2
  exact pickQ_same (fun i hi => by unfold dummyQ; rw [h2 i (List.mem_range.2 hi)]))) (LeO.refl _))) (LeO.refl _))
set_option maxHeartbeats 4000000 in
theorem impl_DummyQuotas.calls (k : Nat) (a0_0 : Int) (A0_1 : Option Addr) (c0_1 : Nat) (l0_1 : List Int) (a1 : Int) (r1 : List Int) (r2 : Bool) (w : World) (hr0_1 : Kd.C (Kd.int .i64) w A0_1 l0_1.length l0_1) (hc0_1 : l0_1.length ≤ c0_1) (h : impl_DummyQuotas.f k a0_0 l0_1 a1 = some (r1, r2)) :
    Calls Try.prog 11 #[.agg #[.int .i64 a0_0, .slice A0_1 l0_1.length c0_1], .int .i64 a1] w fun e w' => ∃ v0_ : Value, e = .returned (.tuple #[v0_, .bool r2]) ∧ Kd.R (Kd.int .i64) 3 w' w.heap.size (fun _ => True) v0_ r1 ∧ Below w.heap.size w w' := by
  have hu := Try.underlying28
  have hmf : ∀ (fn : Fn) (first cap : Array Value) (w : World), (Instr.makeFunc fn first cap).run Try.prog w = .ok (.func fn first cap) w := fun _ _ _ _ => rfl
  unfold impl_DummyQuotas.f at h
  obtain ⟨b, hb, h⟩ := Option.bind_eq_some_iff.1 h
  have HSc := Aside0.mk (fun W (hW : Below w.heap.size w W) => impl_isScanned.calls k a0_0 A0_1 c0_1 l0_1 60 b W (Kd.C_below hr0_1 hW) hc0_1 hb)
  have hW : Below w.heap.size w ((w.alloc (.cells #[.int .i64 a0_0, .slice A0_1 l0_1.length c0_1] 28)).alloc (.cells #[.int .i64 a1] 3)) := Joins.below_alloc2 w _ _
  have e0 : ((w.alloc (.cells #[.int .i64 a0_0, .slice A0_1 l0_1.length c0_1] 28)).alloc (.cells #[.int .i64 a1] 3)).heap[w.heap.size]? = some (.cells #[.int .i64 a0_0, .slice A0_1 l0_1.length c0_1] 28 (0, 0)) := blk_alloc (blk_new w _) _
  have e1 : ((w.alloc (.cells #[.int .i64 a0_0, .slice A0_1 l0_1.length c0_1] 28)).alloc (.cells #[.int .i64 a1] 3)).heap[w.heap.size + 1]? = some (.cells #[.int .i64 a1] 3 (0, 0)) := by
    have h := blk_new (w.alloc (.cells #[.int .i64 a0_0, .slice A0_1 l0_1.length c0_1] 28)) (.cells #[.int .i64 a1] 3)
    rwa [show (w.alloc (.cells #[.int .i64 a0_0, .slice A0_1 l0_1.length c0_1] 28)).heap.size = w.heap.size + 1 by simp] at h
  have HW := Aside0.mk hW
  have HB := Aside0.mk (Below.refl w.heap.size w)
  clear hW hb
  cases b with
  | false =>
    rw [if_neg (by decide)] at h
    simp only [Option.some.injEq, Prod.mk.injEq] at h
    obtain ⟨rfl, rfl⟩ := h
    clear hr0_1
    go_enter Try.func11, Try.ntmps11
    go_wp2_with (go_at_call 36; refine (HSc.out _ (by repeat (first | exact HB.out | apply below_alloc))).mono ?_; rintro e w1 ⟨rfl, hb1⟩; have B0 := Aside0.mk (blk_below e0 hb1); have B1 := Aside0.mk (blk_below e1 hb1); have n0_ := Aside0.mk (below_then HW.out HW.out.size hb1); clear HB hb1; have HB := n0_; clear n0_; have hlt0 := blk_lt B0.out; have hlt1 := blk_lt B1.out; have hcz0 : w1.cell? ⟨w.heap.size, 0, none⟩ = some (.int .i64 a0_0) := (blk_cell B0.out 0).trans rfl; have hcz1 : w1.cell? ⟨w.heap.size, 1, none⟩ = some (.slice A0_1 l0_1.length c0_1) := (blk_cell B0.out 1).trans rfl; have hcz2 : w1.cell? ⟨w.heap.size + 1, 0, none⟩ = some (.int .i64 a1) := (blk_cell B1.out 0).trans rfl; have hfz0 := blk_frozen B0.out 0; have hfz1 := blk_frozen B0.out 1; have hfz2 := blk_frozen B1.out 0)
    go_ret2
    exact ⟨_, rfl, Kd.R_nil _ _ _ _ _, HB.out⟩
  | true =>
    rw [if_pos rfl] at h
    obtain ⟨b2, hb2, h⟩ := Option.bind_eq_some_iff.1 h
    have HMb := Aside0.mk (fun W (hW : Below w.heap.size w W) => impl_isMember.calls k a0_0 A0_1 c0_1 l0_1 a1 b2 W (Kd.C_below hr0_1 hW) hc0_1 hb2)
    clear hb2
    cases b2 with
    | false =>
      rw [if_neg (by decide)] at h
      simp only [Option.some.injEq, Prod.mk.injEq] at h
      obtain ⟨rfl, rfl⟩ := h
      clear hr0_1
      go_enter Try.func11, Try.ntmps11
      go_wp2_with (first | (go_at_call 36; refine (HSc.out _ (by repeat (first | exact HB.out | apply below_alloc))).mono ?_; rintro e w1 ⟨rfl, hb1⟩; have B0 := Aside0.mk (blk_below e0 hb1); have B1 := Aside0.mk (blk_below e1 hb1); have n0_ := Aside0.mk (below_then HW.out HW.out.size hb1); clear HB hb1; have HB := n0_; clear n0_; have hlt0 := blk_lt B0.out; have hlt1 := blk_lt B1.out; have hcz0 : w1.cell? ⟨w.heap.size, 0, none⟩ = some (.int .i64 a0_0) := (blk_cell B0.out 0).trans rfl; have hcz1 : w1.cell? ⟨w.heap.size, 1, none⟩ = some (.slice A0_1 l0_1.length c0_1) := (blk_cell B0.out 1).trans rfl; have hcz2 : w1.cell? ⟨w.heap.size + 1, 0, none⟩ = some (.int .i64 a1) := (blk_cell B1.out 0).trans rfl; have hfz0 := blk_frozen B0.out 0; have hfz1 := blk_frozen B0.out 1; have hfz2 := blk_frozen B1.out 0) | (go_at_call 37; refine (HMb.out _ HB.out).mono ?_; rintro e w2 ⟨rfl, hb2⟩; have n1_ := Aside0.mk (blk_below B0.out hb2); have n2_ := Aside0.mk (blk_below B1.out hb2); have n0_ := Aside0.mk (below_step HB.out hb2); clear HB hb2 B0 B1 hcz0 hcz1 hcz2 hfz0 hfz1 hfz2 hlt0 hlt1; have HB := n0_; have B0 := n1_; have B1 := n2_; clear n0_ n1_ n2_; have hlt0 := blk_lt B0.out; have hlt1 := blk_lt B1.out; have hcz0 : w2.cell? ⟨w.heap.size, 0, none⟩ = some (.int .i64 a0_0) := (blk_cell B0.out 0).trans rfl; have hcz1 : w2.cell? ⟨w.heap.size, 1, none⟩ = some (.slice A0_1 l0_1.length c0_1) := (blk_cell B0.out 1).trans rfl; have hcz2 : w2.cell? ⟨w.heap.size + 1, 0, none⟩ = some (.int .i64 a1) := (blk_cell B1.out 0).trans rfl; have hfz0 := blk_frozen B0.out 0; have hfz1 := blk_frozen B0.out 1; have hfz2 := blk_frozen B1.out 0))
      go_ret2
      exact ⟨_, rfl, Kd.R_nil _ _ _ _ _, HB.out⟩
    | true =>
      rw [if_pos rfl] at h
      obtain ⟨s, hs, h⟩ := Option.bind_eq_some_iff.1 h
      split at h
      case isFalse => cases h
      rename_i hg
      obtain ⟨g1, g2, g3, g4, g5⟩ := hg
      simp only [Option.some.injEq, Prod.mk.injEq] at h
      obtain ⟨rfl, rfl⟩ := h
      obtain ⟨d, hda⟩ := Int.eq_ofNat_of_zero_le g3
      obtain ⟨S, rfl⟩ := Int.eq_ofNat_of_zero_le g1
      have hdn : a1.toNat = d := by omega
      rw [hdn, Int.toNat_natCast] at g5
      simp only [Int.toNat_natCast, hdn]
      have HQ := Aside0.mk (fun (W : World) (hW : Below w.heap.size w W) (hcell : W.cell? ⟨w.heap.size + 1, 0, none⟩ = some (.int .i64 a1)) =>
        impl_Committee_quotas.hof 39 #[.pointer (some ⟨w.heap.size + 1, 0, none⟩)] (enters_of Try.func39 (by kernel_rfl) rfl) (dummyQ k l0_1 d) a0_0 A0_1 c0_1 l0_1 k S hs (by omega) W (Kd.C_below hr0_1 hW) hc0_1 (impl_DummyQuotas.lit (w.heap.size + 1) A0_1 c0_1 l0_1 d k S g5 W (by rw [← hda]; exact hcell) (Kd.C_below hr0_1 hW) hc0_1))
      clear hs hr0_1 g1 g2 g3 g4 g5 hda hdn
      generalize dummyQ k l0_1 d = p at HQ ⊢
      go_enter Try.func11, Try.ntmps11
      go_wp2_with (first | (go_at_call 36; refine (HSc.out _ (by repeat (first | exact HB.out | apply below_alloc))).mono ?_; rintro e w1 ⟨rfl, hb1⟩; have B0 := Aside0.mk (blk_below e0 hb1); have B1 := Aside0.mk (blk_below e1 hb1); have n0_ := Aside0.mk (below_then HW.out HW.out.size hb1); clear HB hb1; have HB := n0_; clear n0_; have hlt0 := blk_lt B0.out; have hlt1 := blk_lt B1.out; have hcz0 : w1.cell? ⟨w.heap.size, 0, none⟩ = some (.int .i64 a0_0) := (blk_cell B0.out 0).trans rfl; have hcz1 : w1.cell? ⟨w.heap.size, 1, none⟩ = some (.slice A0_1 l0_1.length c0_1) := (blk_cell B0.out 1).trans rfl; have hcz2 : w1.cell? ⟨w.heap.size + 1, 0, none⟩ = some (.int .i64 a1) := (blk_cell B1.out 0).trans rfl; have hfz0 := blk_frozen B0.out 0; have hfz1 := blk_frozen B0.out 1; have hfz2 := blk_frozen B1.out 0) | (go_at_call 37; refine (HMb.out _ HB.out).mono ?_; rintro e w2 ⟨rfl, hb2⟩; have n1_ := Aside0.mk (blk_below B0.out hb2); have n2_ := Aside0.mk (blk_below B1.out hb2); have n0_ := Aside0.mk (below_step HB.out hb2); clear HB hb2 B0 B1 hcz0 hcz1 hcz2 hfz0 hfz1 hfz2 hlt0 hlt1; have HB := n0_; have B0 := n1_; have B1 := n2_; clear n0_ n1_ n2_; have hlt0 := blk_lt B0.out; have hlt1 := blk_lt B1.out; have hcz0 : w2.cell? ⟨w.heap.size, 0, none⟩ = some (.int .i64 a0_0) := (blk_cell B0.out 0).trans rfl; have hcz1 : w2.cell? ⟨w.heap.size, 1, none⟩ = some (.slice A0_1 l0_1.length c0_1) := (blk_cell B0.out 1).trans rfl; have hcz2 : w2.cell? ⟨w.heap.size + 1, 0, none⟩ = some (.int .i64 a1) := (blk_cell B1.out 0).trans rfl; have hfz0 := blk_frozen B0.out 0; have hfz1 := blk_frozen B0.out 1; have hfz2 := blk_frozen B1.out 0) | (go_at_call 38; refine (HQ.out _ HB.out hcz2).mono ?_; rintro e w3 ⟨v3, rfl, HR3, hb3⟩; have HL := Aside0.mk (Kd.R_lower (base' := w.heap.size) HR3 HB.out.size); have n0_ := Aside0.mk (below_step HB.out hb3); clear HB hb3 HR3; have HB := n0_; clear n0_))
      go_ret2
      exact ⟨_, rfl, HL.out, HB.out⟩


end Go.Proofs.Ythjnmfacdlgbbaa.P
