-- Functions and contracts: laid by a program of mine out of the translation. Not trusted: Lean checks it.
import Derived.Test.YthjnmfacdlgbbaaPx0
import Derived.Test.YthjnmfacdlgbbaaPx1
import Derived.Test.YthjnmfacdlgbbaaPx2
import Derived.Test.YthjnmfacdlgbbaaPx3
import Derived.Test.YthjnmfacdlgbbaaPx4
import Derived.Test.YthjnmfacdlgbbaaPx6
import Derived.Test.YthjnmfacdlgbbaaPx9
import Derived.Test.YthjnmfacdlgbbaaSame
namespace Go.Proofs.Ythjnmfacdlgbbaa.P
open Go.RowKit Go.Proofs.YthjnmfacdlgbbaaW.PrintWords Go.Proofs.YthjnmfacdlgbbaaW.PrintLast Go.Proofs.YthjnmfacdlgbbaaW.PrintMore
attribute [local go_sem] max2_int min2_int max_two min_two max_three min_three max_four min_four   -- for this text's walks alone
set_option linter.unusedVariables false
set_option linter.unusedSimpArgs false

/-! ### spec_pwCounts: function 48 -/
def spec_pwCounts.l0 : Nat → List Bool → Int → List Int → Int → Option (List Int)
  | 0, _, _, _, _ => none
  | k + 1, x0, x1, x5, x6 => if x6 < x1 then ((spec_pwSwings.f k x0 x6).bind fun t301 => (if x5.length < 17592186044416 then (spec_pwCounts.l0 k x0 x1 (x5 ++ [(t301.length : Int)]) (wrap64 (x6 + 1))) else (none))) else (some x5)
def spec_pwCounts.f (k : Nat) (l0 : List Bool) (a1 : Int) : Option (List Int) := spec_pwCounts.l0 k l0 a1 ([] : List Int) 0
theorem spec_pwCounts.mono_l : ∀ k, (∀ y0 y1 y2 y3, LeO (spec_pwCounts.l0 k y0 y1 y2 y3) (spec_pwCounts.l0 (k + 1) y0 y1 y2 y3))
  | 0 => fun _ _ _ _ r h => by simp [spec_pwCounts.l0] at h
  | k + 1 => by
    have ih0 := spec_pwCounts.mono_l k
    · intro y0 y1 y2 y3
      unfold spec_pwCounts.l0
      repeat' first
      | (with_reducible exact ih0 _ _ _ _)
      | (with_reducible exact spec_pwSwings.mono _ _ _)
      | (with_reducible exact LeO.refl _)
      | (with_reducible exact LeO.none _)
      | (with_reducible refine LeO.ite ?_ ?_)
      | (with_reducible refine LeO.bind ?_ (fun _ => ?_))
      | exact ih0 _ _ _ _
      | exact spec_pwSwings.mono _ _ _
      | exact LeO.none _
      | refine LeO.ite ?_ ?_
      | refine LeO.bind ?_ (fun _ => ?_)
theorem spec_pwCounts.mono : ∀ a0 a1 k, LeO (spec_pwCounts.f k a0 a1) (spec_pwCounts.f (k + 1) a0 a1) := by
  intro a0 a1 k
  have ih0 := spec_pwCounts.mono_l k
  unfold spec_pwCounts.f
  repeat' first
      | (with_reducible exact ih0 _ _ _ _)
      | (with_reducible exact spec_pwSwings.mono _ _ _)
      | (with_reducible exact LeO.refl _)
      | (with_reducible exact LeO.none _)
      | (with_reducible refine LeO.ite ?_ ?_)
      | (with_reducible refine LeO.bind ?_ (fun _ => ?_))
      | exact ih0 _ _ _ _
      | exact spec_pwSwings.mono _ _ _
      | exact LeO.none _
      | refine LeO.ite ?_ ?_
      | refine LeO.bind ?_ (fun _ => ?_)
set_option maxHeartbeats 8000000 in
set_option maxRecDepth 100000 in
theorem spec_pwCounts.calls (k : Nat) (A0 : Option Addr) (c0 : Nat) (l0 : List Bool) (a1 : Int) (r : List Int) (w : World) (hr0 : Kd.C Kd.bool w A0 l0.length l0) (hc0 : l0.length ≤ c0) (h : spec_pwCounts.f k l0 a1 = some r) :
    Calls Try.prog 48 #[.slice A0 l0.length c0, .int .i64 a1] w fun e w' => ∃ v0_ : Value, e = .returned (v0_) ∧ Kd.R (Kd.int .i64) 3 w' w.heap.size (fun _ => True) v0_ r ∧ Below w.heap.size w w' := by
  have HR0 := Aside0.mk hr0
  have HC0 := Aside0.mk hc0
  clear hr0 hc0
  have HB := Aside0.mk (Below.refl w.heap.size w)
  have H : (spec_pwCounts.l0 k l0 a1 ([] : List Int) 0) = some r := h
  clear h
  have H' := Aside0.mk H
  clear H
  go_enter Try.func48, Try.ntmps48
  go_wp2
  go_loopg [5, 6] k (fun kq v5 v6 w' => ∃ (x5_1 : List Int) (x6_1 : Int), v6 = .int .i64 x6_1 ∧ Aside0 (spec_pwCounts.l0 kq l0 a1 x5_1 x6_1 = some r) ∧ Aside0 (kq ≤ k) ∧ Aside0 (Kd.R (Kd.int .i64) 3 w' w.heap.size (fun _ => True) v5 x5_1) ∧ Aside0 (Below w.heap.size w w'))
  case atStart => exact ⟨(([] : List Int)), (0), (by first | rfl | (simp; done) | (simp [*]; done)), H', ⟨Nat.le_refl _⟩, ⟨by first | exact Kd.R_nil _ _ _ _ _ | exact Kd.N_nil _ _ _ _ _ | exact Kd.V_nil _ _ _ _ _ | exact Kd.Q_nil _ _ _ _ _ | exact Kd.S_nil _ _ _ _ _⟩, ⟨by repeat (first | (with_reducible first | exact HB.out | apply below_alloc | apply pw_below_drewN | apply below_drew1) | exact HB.out)⟩⟩
  case round =>
    clear H'
    try clear p2
    obtain ⟨x5_1, x6_1, rfl, HA, HK1, HO_5, HB⟩ := hrel
    cases gk with
    | zero => exact absurd HA.out (by simp [spec_pwCounts.l0])
    | succ k1 =>
      have H := HA.out
      clear HA
      simp only [spec_pwCounts.l0] at H
      by_cases c3 : x6_1 < a1
      · rw [if_pos c3] at H
        have c3b0 : decide (x6_1 < a1) = true := decide_eq_true c3
        clear c3
        replace H := Option.bind_eq_some_iff.mp H
        obtain ⟨t301, A40, H⟩ := H
        replace H : (if x5_1.length < 17592186044416 then (spec_pwCounts.l0 k1 l0 a1 (x5_1 ++ [(t301.length : Int)]) (wrap64 (x6_1 + 1))) else (none)) = some r := H
        have A4 := Aside0.mk A40
        clear A40
        by_cases c5 : x5_1.length < 17592186044416
        · rw [if_pos c5] at H
          have LMc5 := Aside0.mk c5
          clear c5
          obtain ⟨y304, hy304⟩ : ∃ y_ : List Int, y_ = (x5_1 ++ [(t301.length : Int)]) := ⟨_, rfl⟩
          replace H : (spec_pwCounts.l0 k1 l0 a1 y304 (wrap64 (x6_1 + 1))) = some r := by first | (rw [hy304]; with_reducible exact H) | (have H2_ := (Option.bind_some _ _).symm.trans H; rw [hy304]; with_reducible exact H2_) | (have H2_ := (Option.bind_some _ _).symm.trans H; with_reducible exact H2_) | with_reducible exact H | (rw [hy304]; exact H) | exact H
          have Ny304 := Aside0.mk hy304
          clear hy304
          have H' := Aside0.mk H
          clear H
          go_wp2_with (first | ((with_reducible refine gate_callee (f := 34) rfl ?_); refine goesL_ (some 15) rfl rfl Try.func34 (by kernel_rfl) rfl #[.slice A0 l0.length c0, .int .i64 x6_1] rfl (by (try simp only [List.map_toArray, List.map_cons, List.map_nil]); first | done | rfl | (simp only [List.length_drop, List.length_take]; rfl)) ?_; (with_reducible refine (spec_pwSwings.calls k1 _ _ l0 x6_1 t301 _ ?side1 ?side2 A4.out).mono ?_); (case side1 => repeat (first | exact (Kd.C_below HR0.out HB.out) | (with_reducible refine Kd.C_alloc ?_ _) | (with_reducible refine Kd.C_drewN ?_ _) | (with_reducible refine Kd.C_drew ?_))); (case side2 => exact HC0.out); rintro e w6 ⟨v302, rfl, ho0, hb⟩; refine ⟨_, rfl, ?_⟩; have n0_ := Aside0.mk (Kd.R_elder' (by (with_reducible repeat (first | apply Kd.R_alloc | apply Kd.R_drewN | apply Kd.R_drew)); exact HO_5.out) (Kd.R_base ho0) hb); have n1_ := Aside0.mk (Kd.R_lower (Kd.R_new' ho0 (Kd.R_lt (by (with_reducible repeat (first | apply Kd.R_alloc | apply Kd.R_drewN | apply Kd.R_drew)); exact HO_5.out))) (below_size (by repeat (first | (with_reducible first | exact HB.out | apply below_alloc | apply pw_below_drewN | apply below_drew1) | exact HB.out)))); have n2_ := Aside0.mk (below_step (by repeat (first | (with_reducible first | exact HB.out | apply below_alloc | apply pw_below_drewN | apply below_drew1) | exact HB.out)) hb); clear HO_5; clear HB; have HO_5 := n0_; have HO303 := n1_; have HB := n2_; clear n0_ n1_ n2_; (try clear hb); (try clear hb2); (try clear hk); (try clear hi); (try clear ho0); obtain ⟨Ao7, co7, eo7⟩ := Kd.R_slice HO303.out; subst eo7) | ((with_reducible refine gate_builtin (b := .append) (xs := #[.tmp 12, .tmp 17]) rfl ?_); at_builtin; refine Kd.R_append (Kd.int .i64) (w0 := w) w.heap.size rfl (.tmp 12) (.tmp 17) 22 3 (.int .i64 0) 8 rfl Try.underlying22 info3 rfl (by decide) (by omega) u5 x5_1 (t301.length : Int) [.int .i64 (t301.length : Int)] (fun k_ => some k_ ≠ (.slice Ao7 t301.length co7 : Value).ownBlock) (fun _ => False) rfl rfl ?aP (fun _ hk => hk.elim) ?aF ?aO ?aB ?aS ?aL ?_; (case aP => exact rfl); (case aB => exact (by repeat (first | (with_reducible first | exact HB.out | apply below_alloc | apply pw_below_drewN | apply below_drew1) | exact HB.out))); (case aF => exact (fun k_ hk => Kd.fresh' (Kd.R_lt (by (with_reducible repeat (first | apply Kd.R_alloc | apply Kd.R_drewN | apply Kd.R_drew)); exact HO303.out)) k_ hk)); (case aO => exact (by (with_reducible repeat (first | apply Kd.R_alloc | apply Kd.R_drewN | apply Kd.R_drew)); exact Kd.R_mono HO_5.out (fun _ hk => hk.2))); (case aS => exact (below_size (by repeat (first | (with_reducible first | exact HB.out | apply below_alloc | apply pw_below_drewN | apply below_drew1) | exact HB.out)))); (case aL => have := LMc5.out; omega); intro v305 w8 ho hb hg hat; rw [← Ny304.out] at ho; have n0_ := Aside0.mk (Kd.R_after (ok := (fun _ => True)) (by (with_reducible repeat (first | apply Kd.R_alloc | apply Kd.R_drewN | apply Kd.R_drew)); exact HO303.out) hg hat); have n1_ := Aside0.mk (hb); have n2_ := Aside0.mk (ho); clear HO303; clear HB; clear HO_5; have HO303 := n0_; have HB := n1_; have HO306 := n2_; clear n0_ n1_ n2_; clear ho hb hg hat))
          go_roundg k1
          case measure => have := HK1.out; omega
          case rel => exact ⟨(y304), (wrap64 (x6_1 + 1)), (by first | rfl | (simp; done) | (simp [*]; done)), H', ⟨by have := HK1.out; omega⟩, ⟨by (with_reducible repeat (first | apply Kd.R_alloc | apply Kd.R_drewN | apply Kd.R_drew)); exact Kd.R_mono HO306.out (fun _ hk => trivial)⟩, ⟨by repeat (first | (with_reducible first | exact HB.out | apply below_alloc | apply pw_below_drewN | apply below_drew1) | exact HB.out)⟩⟩
        · rw [if_neg c5] at H
          exact absurd H (by simp)
      · rw [if_neg c3] at H
        have c3b0 : decide (x6_1 < a1) = false := decide_eq_false c3
        clear c3
        obtain rfl := Option.some.inj H
        go_wp2
        go_ret
        exact ⟨_, by first | rfl | (simp [errW_none, errW_some] <;> rfl) | (simp [*, errW_none, errW_some] <;> rfl), by (with_reducible repeat (first | apply Kd.R_alloc | apply Kd.R_drewN | apply Kd.R_drew)); exact HO_5.out, by repeat (first | (with_reducible first | exact HB.out | apply below_alloc | apply pw_below_drewN | apply below_drew1) | exact HB.out)⟩

/-! ### spec_SamePower: function 20 -/
-- words Same
def spec_SamePower.f (k : Nat) (a0_0 : Int) (l0_1 : List Int) : Option (List (List Int) × Bool) := (spec_voGood.f k a0_0 l0_1).bind fun b => if b = true then ((spec_voWins.f k a0_0 l0_1).bind fun ws => (spec_pwCounts.f k ws (l0_1.length : Int)).bind fun ss => (spec_pwPivots.f k ws (l0_1.length : Int)).bind fun ps => if l0_1.length ≤ 1000 ∧ l0_1.length ≤ ss.length ∧ l0_1.length ≤ ps.length then some (sameS (sameP ss ps) l0_1.length, true) else none) else some ([], false)
theorem spec_SamePower.mono : ∀ a0 a1 k, LeO (spec_SamePower.f k a0 a1) (spec_SamePower.f (k + 1) a0 a1) := fun a0 a1 k => LeO.bind (spec_voGood.mono a0 a1 k) (fun _ => LeO.ite (LeO.bind (spec_voWins.mono _ _ k) (fun _ => LeO.bind (spec_pwCounts.mono _ _ k) (fun _ => LeO.bind (spec_pwPivots.mono _ _ k) (fun _ => LeO.refl _)))) (LeO.refl _))
set_option maxHeartbeats 8000000 in
set_option maxRecDepth 100000 in
theorem spec_SamePower.calls (k : Nat) (a0_0 : Int) (A0_1 : Option Addr) (c0_1 : Nat) (l0_1 : List Int) (r1 : List (List Int)) (r2 : Bool) (w : World) (hr0_1 : Kd.C (Kd.int .i64) w A0_1 l0_1.length l0_1) (hc0_1 : l0_1.length ≤ c0_1) (h : spec_SamePower.f k a0_0 l0_1 = some (r1, r2)) :
    Calls Try.prog 20 #[.agg #[.int .i64 a0_0, .slice A0_1 l0_1.length c0_1]] w fun e w' => ∃ v0_ : Value, e = .returned (.tuple #[v0_, .bool r2]) ∧ Kd.S (Kd.slice 3 (Kd.int .i64)) 22 w' w.heap.size (fun _ => True) v0_ r1 ∧ Below w.heap.size w w' := by
  have hu := Try.underlying28
  unfold spec_SamePower.f at h
  obtain ⟨b, hb, h0⟩ := Option.bind_eq_some_iff.1 h
  clear h
  have h := h0
  clear h0
  have HCom := Aside0.mk (fun W (hW : Below w.heap.size w W) => spec_voGood.calls k a0_0 A0_1 c0_1 l0_1 b W (Kd.C_below hr0_1 hW) hc0_1 hb)
  have HB := Aside0.mk (Below.refl w.heap.size w)
  clear hb
  cases b with
  | false =>
    rw [if_neg (by decide)] at h
    simp only [Option.some.injEq, Prod.mk.injEq] at h
    obtain ⟨rfl, rfl⟩ := h
    clear hr0_1
    go_enter Try.func20, Try.ntmps20
    go_wp2_with (go_at_call 42; refine (HCom.out _ (by repeat (first | exact HB.out | apply below_alloc))).mono ?_; rintro e w1 ⟨rfl, hb1⟩; have n0_ := Aside0.mk (below_then (below_alloc HB.out _) (by simp) hb1); clear HB hb1; have HB := n0_; clear n0_)
    go_ret2
    exact ⟨_, rfl, Kd.S_nil _ _ _ _ _, HB.out⟩
  | true =>
    rw [if_pos rfl] at h
    obtain ⟨ws, hv, h3⟩ := Option.bind_eq_some_iff.1 h
    clear h
    obtain ⟨ss, hss, h4⟩ := Option.bind_eq_some_iff.1 h3
    clear h3
    obtain ⟨ps, hps, h⟩ := Option.bind_eq_some_iff.1 h4
    clear h4
    split at h
    case isFalse => cases h
    rename_i hg
    simp only [Option.some.injEq, Prod.mk.injEq] at h
    obtain ⟨hres, hr2⟩ := h
    subst hr2
    have HR := Aside0.mk hres
    have HCo := Aside0.mk (fun A c W (hW : Kd.C Kd.bool W A ws.length ws) (hc : ws.length ≤ c) => spec_pwCounts.calls k A c ws (l0_1.length : Int) ss W hW hc hss)
    have HPi := Aside0.mk (fun A c W (hW : Kd.C Kd.bool W A ws.length ws) (hc : ws.length ≤ c) => spec_pwPivots.calls k A c ws (l0_1.length : Int) ps W hW hc hps)
    have HV := Aside0.mk (fun W (hW : Below w.heap.size w W) => spec_voWins.calls k a0_0 A0_1 c0_1 l0_1 ws W (Kd.C_below hr0_1 hW) hc0_1 hv)
    have HN := Aside0.mk hg
    clear hv hss hps hr0_1 hres hg
    go_enter Try.func20, Try.ntmps20
    go_wp2_with (first | (go_at_call 42; refine (HCom.out _ (by repeat (first | exact HB.out | apply below_alloc))).mono ?_; rintro e w1 ⟨rfl, hb1⟩; have B1 := Aside0.mk (blk_below (blk_new w _) hb1); have n0_ := Aside0.mk (below_then (below_alloc HB.out _) (by simp) hb1); clear HB hb1; have HB := n0_; clear n0_; have hlt0 := blk_lt B1.out; have hcz0 : w1.cell? ⟨w.heap.size, 0, none⟩ = some (.int .i64 a0_0) := (blk_cell B1.out 0).trans rfl; have hcz1 : w1.cell? ⟨w.heap.size, 1, none⟩ = some (.slice A0_1 l0_1.length c0_1) := (blk_cell B1.out 1).trans rfl; have hfz0 := blk_frozen B1.out 0; have hfz1 := blk_frozen B1.out 1) | (go_at_call 35; refine (HV.out _ HB.out).mono ?_; rintro e w2 ⟨v, rfl, HRw, hb2⟩; obtain ⟨Aw, cw, rfl⟩ := Kd.R_slice HRw; have B2 := Aside0.mk (blk_below B1.out hb2); have n0_ := Aside0.mk (below_step HB.out hb2); clear HB hb2; have HB := n0_; clear n0_; have HW2 := Aside0.mk (Kd.R_reads' HRw).2.2; have HCw := Aside0.mk (Kd.R_reads' HRw).2.1; clear HRw hcz0 hcz1 hfz0 hfz1))
    refine start_ (n := 12) (S := fun w' => w'.cell? ⟨w.heap.size, 0, none⟩ = some (.int .i64 a0_0) ∧ w'.cell? ⟨w.heap.size, 1, none⟩ = some (.slice A0_1 l0_1.length c0_1)) (ds := []) #[false, false, false, false, false, false, false, false, false, false, false, false] (by kernel_rfl) rfl rfl ⟨(blk_cell (Aside0.mk (blk_drew B2.out)).out 0).trans rfl, (blk_cell (Aside0.mk (blk_drew B2.out)).out 1).trans rfl⟩ (fun hHeld => ?_)
    refine pure_ (i := 0) (N := some 17) (v := ?_) (a' := ?_) #[true, false, false, false, false, false, false, false, false, false, false, false] rfl rfl (by kernel_rfl) (fun _ _ _ h => h) (Or.inl ⟨by rfl, ?_⟩) ?_ ?_
    rotate_left
    · intro w'
      go_simp
      with_reducible rfl
    rotate_left
    · simp only [Act.put, List.setIfInBounds_toArray, List.set_cons_zero, List.set_cons_succ, i64_w, i32_w]
      rfl
    refine pure_ (i := 1) (N := some 18) (v := ?_) (a' := ?_) #[true, true, false, false, false, false, false, false, false, false, false, false] rfl rfl (by kernel_rfl) (fun _ _ _ h => h) (Or.inl ⟨by rfl, ?_⟩) ?_ ?_
    rotate_left
    · intro w'
      go_simp
      with_reducible rfl
    rotate_left
    · simp only [Act.put, List.setIfInBounds_toArray, List.set_cons_zero, List.set_cons_succ, i64_w, i32_w]
      rfl
    refine pure_ (i := 5) (N := some 22) (v := ?_) (a' := ?_) #[true, true, false, false, false, true, false, false, false, false, false, false] rfl rfl (by kernel_rfl) (fun _ _ _ h => h) (Or.inl ⟨by rfl, ?_⟩) ?_ ?_
    rotate_left
    · intro w'
      go_simp
      with_reducible rfl
    rotate_left
    · simp only [Act.put, List.setIfInBounds_toArray, List.set_cons_zero, List.set_cons_succ, i64_w, i32_w]
      rfl
    refine pure_ (i := 6) (N := some 23) (v := ?_) (a' := ?_) #[true, true, false, false, false, true, true, false, false, false, false, false] rfl rfl (by kernel_rfl) (fun _ _ _ h => h) (Or.inl ⟨by rfl, ?_⟩) ?_ ?_
    rotate_left
    · intro w'
      go_simp
      with_reducible rfl
    rotate_left
    · simp only [Act.put, List.setIfInBounds_toArray, List.set_cons_zero, List.set_cons_succ, i64_w, i32_w]
      rfl
    refine take_ (i := 2) (N := some 19) (v := ?_) (a' := ?_) #[true, true, true, false, false, true, true, false, false, false, false, false] rfl rfl (by kernel_rfl) (fun _ _ _ h => h) (Or.inl ⟨by rfl, ?_⟩) hHeld ?_ ?_
    rotate_left
    · rintro w' ⟨s0, s1⟩
      go_simp
      with_reducible rfl
    rotate_left
    · simp only [Act.put, List.setIfInBounds_toArray, List.set_cons_zero, List.set_cons_succ, i64_w, i32_w]
      rfl
    refine pure_ (i := 3) (N := some 20) (v := ?_) (a' := ?_) #[true, true, true, true, false, true, true, false, false, false, false, false] rfl rfl (by kernel_rfl) (fun _ _ _ h => h) (Or.inl ⟨by rfl, ?_⟩) ?_ ?_
    rotate_left
    · intro w'
      go_simp
      with_reducible rfl
    rotate_left
    · simp only [Act.put, List.setIfInBounds_toArray, List.set_cons_zero, List.set_cons_succ, i64_w, i32_w]
      rfl
    refine take_ (i := 7) (N := some 24) (v := ?_) (a' := ?_) #[true, true, true, true, false, true, true, true, false, false, false, false] rfl rfl (by kernel_rfl) (fun _ _ _ h => h) (Or.inl ⟨by rfl, ?_⟩) hHeld ?_ ?_
    rotate_left
    · rintro w' ⟨s0, s1⟩
      go_simp
      with_reducible rfl
    rotate_left
    · simp only [Act.put, List.setIfInBounds_toArray, List.set_cons_zero, List.set_cons_succ, i64_w, i32_w]
      rfl
    refine pure_ (i := 8) (N := some 25) (v := ?_) (a' := ?_) #[true, true, true, true, false, true, true, true, true, false, false, false] rfl rfl (by kernel_rfl) (fun _ _ _ h => h) (Or.inl ⟨by rfl, ?_⟩) ?_ ?_
    rotate_left
    · intro w'
      go_simp
      with_reducible rfl
    rotate_left
    · simp only [Act.put, List.setIfInBounds_toArray, List.set_cons_zero, List.set_cons_succ, i64_w, i32_w]
      rfl
    refine one_ (i := 4) (N := some 21) #[true, true, true, true, true, true, true, true, true, false, false, false] rfl rfl (by kernel_rfl) (by decide) (fun K hK => ?_)
    refine goes_ Try.func48 (by kernel_rfl) rfl #[.slice Aw ws.length cw, .int .i64 (l0_1.length : Int)] (by rfl) rfl rfl (by simp only [List.map_toArray, List.map_cons, List.map_nil]; rfl) ?_
    with_reducible refine (HCo.out Aw cw _ (Kd.C_drew HW2.out) HCw.out).mono ?_
    rintro e w3 ⟨vs, rfl, hRs, hb⟩
    refine ⟨_, rfl, ?_⟩
    obtain ⟨As, cs, rfl⟩ := Kd.R_slice hRs
    have HCs3 := Aside0.mk (Kd.R_reads' hRs).2.2
    have HW3 := Aside0.mk (Kd.C_below (Kd.C_drew HW2.out) hb)
    have B3 := Aside0.mk (blk_below (blk_drew B2.out) hb)
    have HB3 := Aside0.mk (below_step (below_drew1 HB.out) hb)
    clear hRs hb
    refine hK.out _ _ ⟨(blk_cell B3.out 0).trans rfl, (blk_cell B3.out 1).trans rfl⟩ (fun hHeld => ?_)
    clear hK K
    refine norm_ (a' := ?_) ?_ ?_
    rotate_left
    · show Act.put _ (some 21) _ = _
      simp only [Act.put, List.setIfInBounds_toArray, List.set_cons_zero, List.set_cons_succ, i64_w, i32_w]
      rfl
    refine one_ (i := 9) (N := some 26) #[true, true, true, true, true, true, true, true, true, true, false, false] rfl rfl (by kernel_rfl) (by decide) (fun K hK => ?_)
    refine goes_ Try.func49 (by kernel_rfl) rfl #[.slice Aw ws.length cw, .int .i64 (l0_1.length : Int)] (by rfl) rfl rfl (by simp only [List.map_toArray, List.map_cons, List.map_nil]; rfl) ?_
    with_reducible refine (HPi.out Aw cw _ HW3.out HCw.out).mono ?_
    rintro e w4 ⟨vp, rfl, hRp, hb⟩
    refine ⟨_, rfl, ?_⟩
    obtain ⟨Ap, cp, rfl⟩ := Kd.R_slice hRp
    have HCp := Aside0.mk (Kd.R_reads' hRp).2.2
    have HCs := Aside0.mk (Kd.C_below HCs3.out hb)
    have B4 := Aside0.mk (blk_below B3.out hb)
    have HB4 := Aside0.mk (below_step HB3.out hb)
    clear hRp hb
    refine hK.out _ _ ⟨(blk_cell B4.out 0).trans rfl, (blk_cell B4.out 1).trans rfl⟩ (fun hHeld => ?_)
    clear hK K
    refine norm_ (a' := ?_) ?_ ?_
    rotate_left
    · show Act.put _ (some 26) _ = _
      simp only [Act.put, List.setIfInBounds_toArray, List.set_cons_zero, List.set_cons_succ, i64_w, i32_w]
      rfl
    refine pure_ (i := 10) (N := some 5) (v := ?_) (a' := ?_) #[true, true, true, true, true, true, true, true, true, true, true, false] rfl rfl (by kernel_rfl) (fun _ _ _ h => h) (Or.inl ⟨by rfl, ?_⟩) ?_ ?_
    rotate_left
    · intro w'
      go_simp
      with_reducible rfl
    rotate_left
    · simp only [Act.put, List.setIfInBounds_toArray, List.set_cons_zero, List.set_cons_succ, i64_w, i32_w]
      rfl
    refine pure_ (i := 11) (N := some 6) (v := ?_) (a' := ?_) #[true, true, true, true, true, true, true, true, true, true, true, true] rfl rfl (by kernel_rfl) (fun _ _ _ h => h) (Or.inl ⟨by rfl, ?_⟩) ?_ ?_
    rotate_left
    · intro w'
      go_simp
      with_reducible rfl
    rotate_left
    · simp only [Act.put, List.setIfInBounds_toArray, List.set_cons_zero, List.set_cons_succ, i64_w, i32_w]
      rfl
    refine done_ (by kernel_rfl) ?_
    have hcz0 : w4.cell? ⟨w.heap.size, 0, none⟩ = some (.int .i64 a0_0) := (blk_cell B4.out 0).trans rfl
    have hcz1 : w4.cell? ⟨w.heap.size, 1, none⟩ = some (.slice A0_1 l0_1.length c0_1) := (blk_cell B4.out 1).trans rfl
    clear hHeld HCs3 HW3 B3 HB3 HB HCo HPi HV HCom HW2 HCw B1 B2
    have HB := HB4
    clear HB4
    generalize hnn : l0_1.length = n at *
    go_wp2_with fail
    go_loopg [7, 30] n (fun gg s7 s30 wr => ∃ (kk : Nat), kk ≤ n ∧ n - kk ≤ gg ∧ s30 = .int .i64 kk ∧ Aside0 (Kd.S (Kd.slice 3 (Kd.int .i64)) 22 wr w4.heap.size (fun _ => True) s7 (sameS (sameP ss ps) kk)) ∧ Aside0 (Below w4.heap.size w4 wr))
    case atStart => exact ⟨0, Nat.zero_le _, by omega, rfl, ⟨Kd.S_nil _ _ _ _ _⟩, ⟨Below.refl _ _⟩⟩
    case round =>
      obtain ⟨kk, hkk, hgg, rfl, HS, HBr⟩ := hrel
      by_cases hlt : kk < n
      · have hltz : (kk : Int) < (n : Int) := by omega
        obtain ⟨hn1000, hn1, hn2⟩ := HN.out
        obtain ⟨hi1, hi2, -⟩ := sameS_inv (sameP ss ps) kk
        have hnext := sameS_succ (sameP ss ps) kk
        have hlast := sameS_last (sameP ss ps) kk kk
        generalize sameS (sameP ss ps) kk = out at HS hi1 hi2 hnext hlast
        obtain ⟨A, c, rfl⟩ := Kd.S_slice HS.out
        have hput : putS (sameP ss ps) out kk = match out.findIdx? (fitsS (sameP ss ps) kk) with | none => out ++ [[(kk : Int)]] | some i => out.set i (out.getD i [] ++ [(kk : Int)]) := rfl
        rw [← hnext] at hput
        generalize hr : lastS (fitsS (sameP ss ps) kk) (-1) 0 out = r at hlast
        have HR0 := Aside0.mk hr
        have HPut := Aside0.mk hput
        have HLast := Aside0.mk hlast
        have HI1 := Aside0.mk hi1
        have HI2 := Aside0.mk hi2
        clear hr hput hlast hnext hi1 hi2
        go_wp2_with fail
        go_loopg [9, 35] out.length (fun gg s9 s35 wq => ∃ (ii : Nat) (at_ : Int), ii ≤ out.length ∧ out.length - ii ≤ gg ∧ s9 = .int .i64 at_ ∧ s35 = .int .i64 ii ∧ Aside0 (lastS (fitsS (sameP ss ps) kk) at_ ii (out.drop ii) = r) ∧ Aside0 (Below wr.heap.size wr wq))
        case atStart => exact ⟨0, -1, Nat.zero_le _, by omega, rfl, rfl, ⟨HR0.out⟩, ⟨Below.refl _ _⟩⟩
        case round =>
          obtain ⟨ii, at_, hii, hg2, rfl, rfl, HA, HQ⟩ := hrel
          by_cases hlt2 : ii < out.length
          · have hltz2 : (ii : Int) < (out.length : Int) := by omega
            obtain ⟨ado, uo, eo, hKo, hoc⟩ := C_one (d := Kd.slice 3 (Kd.int .i64)) rfl (Kd.S_reads' (Kd.S_below HS.out HQ.out)).2.2 ii hlt2
            cases eo
            obtain ⟨Ag, cg, hue, hcg, hrg⟩ := hKo
            obtain rfl : uo = .slice Ag out[ii].length cg := by simpa using hue
            obtain ⟨hx1, -, hx2⟩ := HI1.out _ (List.getElem_mem hlt2)
            have hA := HA.out
            rw [List.drop_eq_getElem_cons hlt2, lastS] at hA
            clear HA hue
            generalize out[ii] = x at *
            have hx0 : 0 < x.length := by omega
            obtain ⟨adg, u0, eAg, hK0, hg0⟩ := C_one (d := Kd.int .i64) rfl hrg 0 hx0
            cases eAg
            obtain ⟨hj0, hj1⟩ := hx2 _ (List.getElem_mem hx0)
            obtain ⟨j, hj⟩ := Int.eq_ofNat_of_zero_le hj0
            rw [hj] at hj1
            obtain rfl : u0 = .int .i64 (j : Int) := by simpa [Kd.int, Kd.scalar, hj] using hK0
            have hjs : j < ss.length := by omega
            have hjp : j < ps.length := by omega
            have hks : kk < ss.length := by omega
            have hkp : kk < ps.length := by omega
            have hB4q := below_step HBr.out HQ.out
            have hrsW := Kd.C_below HCs.out hB4q
            have hrpW := Kd.C_below HCp.out hB4q
            obtain ⟨ads, ua, eA, hKa, ha⟩ := C_one (d := Kd.int .i64) rfl hrsW j hjs
            cases eA
            obtain ⟨ads', ub, eA, hKb, hb⟩ := C_one (d := Kd.int .i64) rfl hrsW kk hks
            cases eA
            obtain ⟨adp, uc, eA, hKc, hc⟩ := C_one (d := Kd.int .i64) rfl hrpW j hjp
            cases eA
            obtain ⟨adp', ud, eA, hKd, hd⟩ := C_one (d := Kd.int .i64) rfl hrpW kk hkp
            cases eA
            obtain rfl : ua = .int .i64 ss[j] := by simpa [Kd.int, Kd.scalar] using hKa
            obtain rfl : ub = .int .i64 ss[kk] := by simpa [Kd.int, Kd.scalar] using hKb
            obtain rfl : uc = .int .i64 ps[j] := by simpa [Kd.int, Kd.scalar] using hKc
            obtain rfl : ud = .int .i64 ps[kk] := by simpa [Kd.int, Kd.scalar] using hKd
            have hp : fitsS (sameP ss ps) kk x = (ss[j] == ss[kk] && ps[j] == ps[kk]) := by
              have e0 : x.getD 0 0 = (j : Int) := by rw [List.getD_eq_getElem?_getD, List.getElem?_eq_getElem hx0]; exact hj
              unfold fitsS sameP
              rw [e0, Int.toNat_natCast]
              rw [Bool.eq_iff_iff]
              simp [hjs, hks, hjp, hkp]
            rw [hp] at hA
            have q0 : (0 < x.length) = True := eq_true hx0
            have ead : adg.add 0 = adg := by rcases adg with ⟨b, o, _ | p⟩ <;> simp [Addr.add]
            rw [ead] at hg0
            have q1 : (0 ≤ (j : Int)) = True := eq_true (Int.natCast_nonneg _)
            have q2 : (0 ≤ (kk : Int)) = True := eq_true (Int.natCast_nonneg _)
            have q3 : ((j : Int) < (ss.length : Int)) = True := eq_true (by omega)
            have q4 : ((kk : Int) < (ss.length : Int)) = True := eq_true (by omega)
            have q5 : ((j : Int) < (ps.length : Int)) = True := eq_true (by omega)
            have q6 : ((kk : Int) < (ps.length : Int)) = True := eq_true (by omega)
            have q7 : (0 ≤ (ii : Int)) = True := eq_true (Int.natCast_nonneg _)
            clear hp hKa hKb hKc hKd hrsW hrpW hK0 hrg hx2 hcg hx0 hj hj0 hj1 hx1
            generalize ss[j] = a at hA ha
            generalize ss[kk] = b at hA hb
            generalize ps[j] = c' at hA hc
            generalize ps[kk] = d at hA hd
            clear hjs hjp hks hkp
            have hdr : Below wr.heap.size wr wr.drew := below_drew1 (Below.refl _ _)
            have HA2 := Aside0.mk hA
            have hii3 : ii < 1000 := by have h_ := HI2.out; omega
            clear hA
            go_wp2_with fail
            cases hab : (a == b) with
            | true =>
              refine start_ (n := 24) (S := fun w' => w'.cell? adg = some (.int .i64 (j : Int)) ∧ w'.cell? (ads.add j) = some (.int .i64 a) ∧ w'.cell? (ads.add kk) = some (.int .i64 b) ∧ w'.cell? (adp.add j) = some (.int .i64 c') ∧ w'.cell? (adp.add kk) = some (.int .i64 d)) (ds := []) #[false, false, false, false, false, false, false, false, false, false, false, false, false, false, false, false, false, false, false, false, false, false, false, false] (by kernel_rfl) rfl rfl ⟨cell_later hdr hg0, cell_later hdr ha, cell_later hdr hb, cell_later hdr hc, cell_later hdr hd⟩ (fun hHeld => ?_)
              refine pure_ (i := 0) (N := some 40) (v := ?_) (a' := ?_) #[true, false, false, false, false, false, false, false, false, false, false, false, false, false, false, false, false, false, false, false, false, false, false, false] rfl rfl (by kernel_rfl) (fun _ _ _ h => h) (Or.inl ⟨by rfl, ?_⟩) ?_ ?_
              rotate_left
              · intro w'
                go_simp
                with_reducible rfl
              rotate_left
              · simp only [Act.put, List.setIfInBounds_toArray, List.set_cons_zero, List.set_cons_succ, i64_w, i32_w]
                rfl
              refine pure_ (i := 1) (N := some 41) (v := ?_) (a' := ?_) #[true, true, false, false, false, false, false, false, false, false, false, false, false, false, false, false, false, false, false, false, false, false, false, false] rfl rfl (by kernel_rfl) (fun _ _ _ h => h) (Or.inl ⟨by rfl, ?_⟩) ?_ ?_
              rotate_left
              · intro w'
                go_simp
                with_reducible rfl
              rotate_left
              · simp only [Act.put, List.setIfInBounds_toArray, List.set_cons_zero, List.set_cons_succ, i64_w, i32_w]
                rfl
              refine pure_ (i := 2) (N := some 42) (v := ?_) (a' := ?_) #[true, true, true, false, false, false, false, false, false, false, false, false, false, false, false, false, false, false, false, false, false, false, false, false] rfl rfl (by kernel_rfl) (fun _ _ _ h => h) (Or.inl ⟨by rfl, ?_⟩) ?_ ?_
              rotate_left
              · intro w'
                go_simp
                with_reducible rfl
              rotate_left
              · simp only [Act.put, List.setIfInBounds_toArray, List.set_cons_zero, List.set_cons_succ, i64_w, i32_w]
                rfl
              refine pure_ (i := 6) (N := some 46) (v := ?_) (a' := ?_) #[true, true, true, false, false, false, true, false, false, false, false, false, false, false, false, false, false, false, false, false, false, false, false, false] rfl rfl (by kernel_rfl) (fun _ _ _ h => h) (Or.inl ⟨by rfl, ?_⟩) ?_ ?_
              rotate_left
              · intro w'
                go_simp
                with_reducible rfl
              rotate_left
              · simp only [Act.put, List.setIfInBounds_toArray, List.set_cons_zero, List.set_cons_succ, i64_w, i32_w]
                rfl
              refine pure_ (i := 7) (N := some 47) (v := ?_) (a' := ?_) #[true, true, true, false, false, false, true, true, false, false, false, false, false, false, false, false, false, false, false, false, false, false, false, false] rfl rfl (by kernel_rfl) (fun _ _ _ h => h) (Or.inl ⟨by rfl, ?_⟩) ?_ ?_
              rotate_left
              · intro w'
                go_simp
                with_reducible rfl
              rotate_left
              · simp only [Act.put, List.setIfInBounds_toArray, List.set_cons_zero, List.set_cons_succ, i64_w, i32_w]
                rfl
              refine pure_ (i := 8) (N := some 48) (v := ?_) (a' := ?_) #[true, true, true, false, false, false, true, true, true, false, false, false, false, false, false, false, false, false, false, false, false, false, false, false] rfl rfl (by kernel_rfl) (fun _ _ _ h => h) (Or.inl ⟨by rfl, ?_⟩) ?_ ?_
              rotate_left
              · intro w'
                go_simp
                with_reducible rfl
              rotate_left
              · simp only [Act.put, List.setIfInBounds_toArray, List.set_cons_zero, List.set_cons_succ, i64_w, i32_w]
                rfl
              refine take_ (i := 3) (N := some 43) (v := ?_) (a' := ?_) #[true, true, true, true, false, false, true, true, true, false, false, false, false, false, false, false, false, false, false, false, false, false, false, false] rfl rfl (by kernel_rfl) (fun _ _ _ h => h) (Or.inl ⟨by rfl, ?_⟩) hHeld ?_ ?_
              rotate_left
              · rintro w' ⟨s0, s1, s2, s3, s4⟩
                go_simp
                with_reducible rfl
              rotate_left
              · simp only [Act.put, List.setIfInBounds_toArray, List.set_cons_zero, List.set_cons_succ, i64_w, i32_w]
                rfl
              refine pure_ (i := 4) (N := some 44) (v := ?_) (a' := ?_) #[true, true, true, true, true, false, true, true, true, false, false, false, false, false, false, false, false, false, false, false, false, false, false, false] rfl rfl (by kernel_rfl) (fun _ _ _ h => h) (Or.inl ⟨by rfl, ?_⟩) ?_ ?_
              rotate_left
              · intro w'
                go_simp
                with_reducible rfl
              rotate_left
              · simp only [Act.put, List.setIfInBounds_toArray, List.set_cons_zero, List.set_cons_succ, i64_w, i32_w]
                rfl
              refine take_ (i := 5) (N := some 45) (v := ?_) (a' := ?_) #[true, true, true, true, true, true, true, true, true, false, false, false, false, false, false, false, false, false, false, false, false, false, false, false] rfl rfl (by kernel_rfl) (fun _ _ _ h => h) (Or.inl ⟨by rfl, ?_⟩) hHeld ?_ ?_
              rotate_left
              · rintro w' ⟨s0, s1, s2, s3, s4⟩
                go_simp
                with_reducible rfl
              rotate_left
              · simp only [Act.put, List.setIfInBounds_toArray, List.set_cons_zero, List.set_cons_succ, i64_w, i32_w]
                rfl
              refine take_ (i := 9) (N := some 49) (v := ?_) (a' := ?_) #[true, true, true, true, true, true, true, true, true, true, false, false, false, false, false, false, false, false, false, false, false, false, false, false] rfl rfl (by kernel_rfl) (fun _ _ _ h => h) (Or.inl ⟨by rfl, ?_⟩) hHeld ?_ ?_
              rotate_left
              · rintro w' ⟨s0, s1, s2, s3, s4⟩
                go_simp
                with_reducible rfl
              rotate_left
              · simp only [Act.put, List.setIfInBounds_toArray, List.set_cons_zero, List.set_cons_succ, i64_w, i32_w]
                rfl
              refine pure_ (i := 10) (N := some 50) (v := ?_) (a' := ?_) #[true, true, true, true, true, true, true, true, true, true, true, false, false, false, false, false, false, false, false, false, false, false, false, false] rfl rfl (by kernel_rfl) (fun _ _ _ h => h) (Or.inl ⟨by rfl, ?_⟩) ?_ ?_
              rotate_left
              · intro w'
                go_simp
                with_reducible rfl
              rotate_left
              · simp only [Act.put, List.setIfInBounds_toArray, List.set_cons_zero, List.set_cons_succ, i64_w, i32_w]
                rfl
              refine pure_ (i := 11) (N := some 51) (v := ?_) (a' := ?_) #[true, true, true, true, true, true, true, true, true, true, true, true, false, false, false, false, false, false, false, false, false, false, false, false] rfl rfl (by kernel_rfl) (fun _ _ _ h => h) (Or.inl ⟨by rfl, ?_⟩) ?_ ?_
              rotate_left
              · intro w'
                go_simp
                with_reducible rfl
              rotate_left
              · simp only [Act.put, List.setIfInBounds_toArray, List.set_cons_zero, List.set_cons_succ, i64_w, i32_w]
                rfl
              refine pure_ (i := 12) (N := some 52) (v := ?_) (a' := ?_) #[true, true, true, true, true, true, true, true, true, true, true, true, true, false, false, false, false, false, false, false, false, false, false, false] rfl rfl (by kernel_rfl) (fun _ _ _ h => h) (Or.inl ⟨by rfl, ?_⟩) ?_ ?_
              rotate_left
              · intro w'
                go_simp
                with_reducible rfl
              rotate_left
              · simp only [Act.put, List.setIfInBounds_toArray, List.set_cons_zero, List.set_cons_succ, i64_w, i32_w]
                rfl
              refine pure_ (i := 13) (N := some 53) (v := ?_) (a' := ?_) #[true, true, true, true, true, true, true, true, true, true, true, true, true, true, false, false, false, false, false, false, false, false, false, false] rfl rfl (by kernel_rfl) (fun _ _ _ h => h) (Or.inl ⟨by rfl, ?_⟩) ?_ ?_
              rotate_left
              · intro w'
                go_simp
                with_reducible rfl
              rotate_left
              · simp only [Act.put, List.setIfInBounds_toArray, List.set_cons_zero, List.set_cons_succ, i64_w, i32_w]
                rfl
              refine pure_ (i := 14) (N := some 54) (v := ?_) (a' := ?_) #[true, true, true, true, true, true, true, true, true, true, true, true, true, true, true, false, false, false, false, false, false, false, false, false] rfl rfl (by kernel_rfl) (fun _ _ _ h => h) (Or.inl ⟨by rfl, ?_⟩) ?_ ?_
              rotate_left
              · intro w'
                go_simp
                with_reducible rfl
              rotate_left
              · simp only [Act.put, List.setIfInBounds_toArray, List.set_cons_zero, List.set_cons_succ, i64_w, i32_w]
                rfl
              refine pure_ (i := 18) (N := some 58) (v := ?_) (a' := ?_) #[true, true, true, true, true, true, true, true, true, true, true, true, true, true, true, false, false, false, true, false, false, false, false, false] rfl rfl (by kernel_rfl) (fun _ _ _ h => h) (Or.inl ⟨by rfl, ?_⟩) ?_ ?_
              rotate_left
              · intro w'
                go_simp
                with_reducible rfl
              rotate_left
              · simp only [Act.put, List.setIfInBounds_toArray, List.set_cons_zero, List.set_cons_succ, i64_w, i32_w]
                rfl
              refine pure_ (i := 19) (N := some 59) (v := ?_) (a' := ?_) #[true, true, true, true, true, true, true, true, true, true, true, true, true, true, true, false, false, false, true, true, false, false, false, false] rfl rfl (by kernel_rfl) (fun _ _ _ h => h) (Or.inl ⟨by rfl, ?_⟩) ?_ ?_
              rotate_left
              · intro w'
                go_simp
                with_reducible rfl
              rotate_left
              · simp only [Act.put, List.setIfInBounds_toArray, List.set_cons_zero, List.set_cons_succ, i64_w, i32_w]
                rfl
              refine pure_ (i := 20) (N := some 60) (v := ?_) (a' := ?_) #[true, true, true, true, true, true, true, true, true, true, true, true, true, true, true, false, false, false, true, true, true, false, false, false] rfl rfl (by kernel_rfl) (fun _ _ _ h => h) (Or.inl ⟨by rfl, ?_⟩) ?_ ?_
              rotate_left
              · intro w'
                go_simp
                with_reducible rfl
              rotate_left
              · simp only [Act.put, List.setIfInBounds_toArray, List.set_cons_zero, List.set_cons_succ, i64_w, i32_w]
                rfl
              refine take_ (i := 15) (N := some 55) (v := ?_) (a' := ?_) #[true, true, true, true, true, true, true, true, true, true, true, true, true, true, true, true, false, false, true, true, true, false, false, false] rfl rfl (by kernel_rfl) (fun _ _ _ h => h) (Or.inl ⟨by rfl, ?_⟩) hHeld ?_ ?_
              rotate_left
              · rintro w' ⟨s0, s1, s2, s3, s4⟩
                go_simp
                with_reducible rfl
              rotate_left
              · simp only [Act.put, List.setIfInBounds_toArray, List.set_cons_zero, List.set_cons_succ, i64_w, i32_w]
                rfl
              refine pure_ (i := 16) (N := some 56) (v := ?_) (a' := ?_) #[true, true, true, true, true, true, true, true, true, true, true, true, true, true, true, true, true, false, true, true, true, false, false, false] rfl rfl (by kernel_rfl) (fun _ _ _ h => h) (Or.inl ⟨by rfl, ?_⟩) ?_ ?_
              rotate_left
              · intro w'
                go_simp
                with_reducible rfl
              rotate_left
              · simp only [Act.put, List.setIfInBounds_toArray, List.set_cons_zero, List.set_cons_succ, i64_w, i32_w]
                rfl
              refine take_ (i := 17) (N := some 57) (v := ?_) (a' := ?_) #[true, true, true, true, true, true, true, true, true, true, true, true, true, true, true, true, true, true, true, true, true, false, false, false] rfl rfl (by kernel_rfl) (fun _ _ _ h => h) (Or.inl ⟨by rfl, ?_⟩) hHeld ?_ ?_
              rotate_left
              · rintro w' ⟨s0, s1, s2, s3, s4⟩
                go_simp
                with_reducible rfl
              rotate_left
              · simp only [Act.put, List.setIfInBounds_toArray, List.set_cons_zero, List.set_cons_succ, i64_w, i32_w]
                rfl
              refine take_ (i := 21) (N := some 61) (v := ?_) (a' := ?_) #[true, true, true, true, true, true, true, true, true, true, true, true, true, true, true, true, true, true, true, true, true, true, false, false] rfl rfl (by kernel_rfl) (fun _ _ _ h => h) (Or.inl ⟨by rfl, ?_⟩) hHeld ?_ ?_
              rotate_left
              · rintro w' ⟨s0, s1, s2, s3, s4⟩
                go_simp
                with_reducible rfl
              rotate_left
              · simp only [Act.put, List.setIfInBounds_toArray, List.set_cons_zero, List.set_cons_succ, i64_w, i32_w]
                rfl
              refine pure_ (i := 22) (N := some 62) (v := ?_) (a' := ?_) #[true, true, true, true, true, true, true, true, true, true, true, true, true, true, true, true, true, true, true, true, true, true, true, false] rfl rfl (by kernel_rfl) (fun _ _ _ h => h) (Or.inl ⟨by rfl, ?_⟩) ?_ ?_
              rotate_left
              · intro w'
                go_simp
                with_reducible rfl
              rotate_left
              · simp only [Act.put, List.setIfInBounds_toArray, List.set_cons_zero, List.set_cons_succ, i64_w, i32_w]
                rfl
              refine pure_ (i := 23) (N := some 63) (v := ?_) (a' := ?_) #[true, true, true, true, true, true, true, true, true, true, true, true, true, true, true, true, true, true, true, true, true, true, true, true] rfl rfl (by kernel_rfl) (fun _ _ _ h => h) (Or.inl ⟨by rfl, ?_⟩) ?_ ?_
              rotate_left
              · intro w'
                go_simp
                with_reducible rfl
              rotate_left
              · simp only [Act.put, List.setIfInBounds_toArray, List.set_cons_zero, List.set_cons_succ, i64_w, i32_w]
                rfl
              refine done_ (by kernel_rfl) ?_
              cases hcd : (c' == d) with
              | true =>
                go_wp2
                go_roundg (out.length - (ii + 1))
                case measure => omega
                case rel => exact ⟨ii + 1, (ii : Int), by omega, by omega, rfl, by go_num, ⟨by have h_ := HA2.out; rw [hab, hcd] at h_; exact h_⟩, ⟨below_drew1 HQ.out⟩⟩
              | false =>
                go_wp2
                go_roundg (out.length - (ii + 1))
                case measure => omega
                case rel => exact ⟨ii + 1, at_, by omega, by omega, rfl, by go_num, ⟨by have h_ := HA2.out; rw [hab, hcd] at h_; exact h_⟩, ⟨below_drew1 HQ.out⟩⟩
            | false =>
              refine start_ (n := 24) (S := fun w' => w'.cell? adg = some (.int .i64 (j : Int)) ∧ w'.cell? (ads.add j) = some (.int .i64 a) ∧ w'.cell? (ads.add kk) = some (.int .i64 b) ∧ w'.cell? (adp.add j) = some (.int .i64 c') ∧ w'.cell? (adp.add kk) = some (.int .i64 d)) (ds := []) #[false, false, false, false, false, false, false, false, false, false, false, false, false, false, false, false, false, false, false, false, false, false, false, false] (by kernel_rfl) rfl rfl ⟨cell_later hdr hg0, cell_later hdr ha, cell_later hdr hb, cell_later hdr hc, cell_later hdr hd⟩ (fun hHeld => ?_)
              refine pure_ (i := 0) (N := some 40) (v := ?_) (a' := ?_) #[true, false, false, false, false, false, false, false, false, false, false, false, false, false, false, false, false, false, false, false, false, false, false, false] rfl rfl (by kernel_rfl) (fun _ _ _ h => h) (Or.inl ⟨by rfl, ?_⟩) ?_ ?_
              rotate_left
              · intro w'
                go_simp
                with_reducible rfl
              rotate_left
              · simp only [Act.put, List.setIfInBounds_toArray, List.set_cons_zero, List.set_cons_succ, i64_w, i32_w]
                rfl
              refine pure_ (i := 1) (N := some 41) (v := ?_) (a' := ?_) #[true, true, false, false, false, false, false, false, false, false, false, false, false, false, false, false, false, false, false, false, false, false, false, false] rfl rfl (by kernel_rfl) (fun _ _ _ h => h) (Or.inl ⟨by rfl, ?_⟩) ?_ ?_
              rotate_left
              · intro w'
                go_simp
                with_reducible rfl
              rotate_left
              · simp only [Act.put, List.setIfInBounds_toArray, List.set_cons_zero, List.set_cons_succ, i64_w, i32_w]
                rfl
              refine pure_ (i := 2) (N := some 42) (v := ?_) (a' := ?_) #[true, true, true, false, false, false, false, false, false, false, false, false, false, false, false, false, false, false, false, false, false, false, false, false] rfl rfl (by kernel_rfl) (fun _ _ _ h => h) (Or.inl ⟨by rfl, ?_⟩) ?_ ?_
              rotate_left
              · intro w'
                go_simp
                with_reducible rfl
              rotate_left
              · simp only [Act.put, List.setIfInBounds_toArray, List.set_cons_zero, List.set_cons_succ, i64_w, i32_w]
                rfl
              refine pure_ (i := 6) (N := some 46) (v := ?_) (a' := ?_) #[true, true, true, false, false, false, true, false, false, false, false, false, false, false, false, false, false, false, false, false, false, false, false, false] rfl rfl (by kernel_rfl) (fun _ _ _ h => h) (Or.inl ⟨by rfl, ?_⟩) ?_ ?_
              rotate_left
              · intro w'
                go_simp
                with_reducible rfl
              rotate_left
              · simp only [Act.put, List.setIfInBounds_toArray, List.set_cons_zero, List.set_cons_succ, i64_w, i32_w]
                rfl
              refine pure_ (i := 7) (N := some 47) (v := ?_) (a' := ?_) #[true, true, true, false, false, false, true, true, false, false, false, false, false, false, false, false, false, false, false, false, false, false, false, false] rfl rfl (by kernel_rfl) (fun _ _ _ h => h) (Or.inl ⟨by rfl, ?_⟩) ?_ ?_
              rotate_left
              · intro w'
                go_simp
                with_reducible rfl
              rotate_left
              · simp only [Act.put, List.setIfInBounds_toArray, List.set_cons_zero, List.set_cons_succ, i64_w, i32_w]
                rfl
              refine pure_ (i := 8) (N := some 48) (v := ?_) (a' := ?_) #[true, true, true, false, false, false, true, true, true, false, false, false, false, false, false, false, false, false, false, false, false, false, false, false] rfl rfl (by kernel_rfl) (fun _ _ _ h => h) (Or.inl ⟨by rfl, ?_⟩) ?_ ?_
              rotate_left
              · intro w'
                go_simp
                with_reducible rfl
              rotate_left
              · simp only [Act.put, List.setIfInBounds_toArray, List.set_cons_zero, List.set_cons_succ, i64_w, i32_w]
                rfl
              refine take_ (i := 3) (N := some 43) (v := ?_) (a' := ?_) #[true, true, true, true, false, false, true, true, true, false, false, false, false, false, false, false, false, false, false, false, false, false, false, false] rfl rfl (by kernel_rfl) (fun _ _ _ h => h) (Or.inl ⟨by rfl, ?_⟩) hHeld ?_ ?_
              rotate_left
              · rintro w' ⟨s0, s1, s2, s3, s4⟩
                go_simp
                with_reducible rfl
              rotate_left
              · simp only [Act.put, List.setIfInBounds_toArray, List.set_cons_zero, List.set_cons_succ, i64_w, i32_w]
                rfl
              refine pure_ (i := 4) (N := some 44) (v := ?_) (a' := ?_) #[true, true, true, true, true, false, true, true, true, false, false, false, false, false, false, false, false, false, false, false, false, false, false, false] rfl rfl (by kernel_rfl) (fun _ _ _ h => h) (Or.inl ⟨by rfl, ?_⟩) ?_ ?_
              rotate_left
              · intro w'
                go_simp
                with_reducible rfl
              rotate_left
              · simp only [Act.put, List.setIfInBounds_toArray, List.set_cons_zero, List.set_cons_succ, i64_w, i32_w]
                rfl
              refine take_ (i := 5) (N := some 45) (v := ?_) (a' := ?_) #[true, true, true, true, true, true, true, true, true, false, false, false, false, false, false, false, false, false, false, false, false, false, false, false] rfl rfl (by kernel_rfl) (fun _ _ _ h => h) (Or.inl ⟨by rfl, ?_⟩) hHeld ?_ ?_
              rotate_left
              · rintro w' ⟨s0, s1, s2, s3, s4⟩
                go_simp
                with_reducible rfl
              rotate_left
              · simp only [Act.put, List.setIfInBounds_toArray, List.set_cons_zero, List.set_cons_succ, i64_w, i32_w]
                rfl
              refine take_ (i := 9) (N := some 49) (v := ?_) (a' := ?_) #[true, true, true, true, true, true, true, true, true, true, false, false, false, false, false, false, false, false, false, false, false, false, false, false] rfl rfl (by kernel_rfl) (fun _ _ _ h => h) (Or.inl ⟨by rfl, ?_⟩) hHeld ?_ ?_
              rotate_left
              · rintro w' ⟨s0, s1, s2, s3, s4⟩
                go_simp
                with_reducible rfl
              rotate_left
              · simp only [Act.put, List.setIfInBounds_toArray, List.set_cons_zero, List.set_cons_succ, i64_w, i32_w]
                rfl
              refine pure_ (i := 10) (N := some 50) (v := ?_) (a' := ?_) #[true, true, true, true, true, true, true, true, true, true, true, false, false, false, false, false, false, false, false, false, false, false, false, false] rfl rfl (by kernel_rfl) (fun _ _ _ h => h) (Or.inl ⟨by rfl, ?_⟩) ?_ ?_
              rotate_left
              · intro w'
                go_simp
                with_reducible rfl
              rotate_left
              · simp only [Act.put, List.setIfInBounds_toArray, List.set_cons_zero, List.set_cons_succ, i64_w, i32_w]
                rfl
              refine pure_ (i := 11) (N := some 51) (v := ?_) (a' := ?_) #[true, true, true, true, true, true, true, true, true, true, true, true, false, false, false, false, false, false, false, false, false, false, false, false] rfl rfl (by kernel_rfl) (fun _ _ _ h => h) (Or.inl ⟨by rfl, ?_⟩) ?_ ?_
              rotate_left
              · intro w'
                go_simp
                with_reducible rfl
              rotate_left
              · simp only [Act.put, List.setIfInBounds_toArray, List.set_cons_zero, List.set_cons_succ, i64_w, i32_w]
                rfl
              refine pure_ (i := 12) (N := some 52) (v := undef) (a' := ?_) #[true, true, true, true, true, true, true, true, true, true, true, true, true, false, false, false, false, false, false, false, false, false, false, false] rfl rfl (by kernel_rfl) (fun _ _ _ h => h) (Or.inr ⟨by rfl, rfl⟩) ?_ ?_
              rotate_left
              · simp only [Act.put, List.setIfInBounds_toArray, List.set_cons_zero, List.set_cons_succ, i64_w, i32_w]
                rfl
              refine pure_ (i := 13) (N := some 53) (v := undef) (a' := ?_) #[true, true, true, true, true, true, true, true, true, true, true, true, true, true, false, false, false, false, false, false, false, false, false, false] rfl rfl (by kernel_rfl) (fun _ _ _ h => h) (Or.inr ⟨by rfl, rfl⟩) ?_ ?_
              rotate_left
              · simp only [Act.put, List.setIfInBounds_toArray, List.set_cons_zero, List.set_cons_succ, i64_w, i32_w]
                rfl
              refine pure_ (i := 14) (N := some 54) (v := undef) (a' := ?_) #[true, true, true, true, true, true, true, true, true, true, true, true, true, true, true, false, false, false, false, false, false, false, false, false] rfl rfl (by kernel_rfl) (fun _ _ _ h => h) (Or.inr ⟨by rfl, rfl⟩) ?_ ?_
              rotate_left
              · simp only [Act.put, List.setIfInBounds_toArray, List.set_cons_zero, List.set_cons_succ, i64_w, i32_w]
                rfl
              refine pure_ (i := 15) (N := some 55) (v := undef) (a' := ?_) #[true, true, true, true, true, true, true, true, true, true, true, true, true, true, true, true, false, false, false, false, false, false, false, false] rfl rfl (by kernel_rfl) (fun _ _ _ h => h) (Or.inr ⟨by rfl, rfl⟩) ?_ ?_
              rotate_left
              · simp only [Act.put, List.setIfInBounds_toArray, List.set_cons_zero, List.set_cons_succ, i64_w, i32_w]
                rfl
              refine pure_ (i := 16) (N := some 56) (v := undef) (a' := ?_) #[true, true, true, true, true, true, true, true, true, true, true, true, true, true, true, true, true, false, false, false, false, false, false, false] rfl rfl (by kernel_rfl) (fun _ _ _ h => h) (Or.inr ⟨by rfl, rfl⟩) ?_ ?_
              rotate_left
              · simp only [Act.put, List.setIfInBounds_toArray, List.set_cons_zero, List.set_cons_succ, i64_w, i32_w]
                rfl
              refine pure_ (i := 17) (N := some 57) (v := undef) (a' := ?_) #[true, true, true, true, true, true, true, true, true, true, true, true, true, true, true, true, true, true, false, false, false, false, false, false] rfl rfl (by kernel_rfl) (fun _ _ _ h => h) (Or.inr ⟨by rfl, rfl⟩) ?_ ?_
              rotate_left
              · simp only [Act.put, List.setIfInBounds_toArray, List.set_cons_zero, List.set_cons_succ, i64_w, i32_w]
                rfl
              refine pure_ (i := 18) (N := some 58) (v := undef) (a' := ?_) #[true, true, true, true, true, true, true, true, true, true, true, true, true, true, true, true, true, true, true, false, false, false, false, false] rfl rfl (by kernel_rfl) (fun _ _ _ h => h) (Or.inr ⟨by rfl, rfl⟩) ?_ ?_
              rotate_left
              · simp only [Act.put, List.setIfInBounds_toArray, List.set_cons_zero, List.set_cons_succ, i64_w, i32_w]
                rfl
              refine pure_ (i := 19) (N := some 59) (v := undef) (a' := ?_) #[true, true, true, true, true, true, true, true, true, true, true, true, true, true, true, true, true, true, true, true, false, false, false, false] rfl rfl (by kernel_rfl) (fun _ _ _ h => h) (Or.inr ⟨by rfl, rfl⟩) ?_ ?_
              rotate_left
              · simp only [Act.put, List.setIfInBounds_toArray, List.set_cons_zero, List.set_cons_succ, i64_w, i32_w]
                rfl
              refine pure_ (i := 20) (N := some 60) (v := undef) (a' := ?_) #[true, true, true, true, true, true, true, true, true, true, true, true, true, true, true, true, true, true, true, true, true, false, false, false] rfl rfl (by kernel_rfl) (fun _ _ _ h => h) (Or.inr ⟨by rfl, rfl⟩) ?_ ?_
              rotate_left
              · simp only [Act.put, List.setIfInBounds_toArray, List.set_cons_zero, List.set_cons_succ, i64_w, i32_w]
                rfl
              refine pure_ (i := 21) (N := some 61) (v := undef) (a' := ?_) #[true, true, true, true, true, true, true, true, true, true, true, true, true, true, true, true, true, true, true, true, true, true, false, false] rfl rfl (by kernel_rfl) (fun _ _ _ h => h) (Or.inr ⟨by rfl, rfl⟩) ?_ ?_
              rotate_left
              · simp only [Act.put, List.setIfInBounds_toArray, List.set_cons_zero, List.set_cons_succ, i64_w, i32_w]
                rfl
              refine pure_ (i := 22) (N := some 62) (v := undef) (a' := ?_) #[true, true, true, true, true, true, true, true, true, true, true, true, true, true, true, true, true, true, true, true, true, true, true, false] rfl rfl (by kernel_rfl) (fun _ _ _ h => h) (Or.inr ⟨by rfl, rfl⟩) ?_ ?_
              rotate_left
              · simp only [Act.put, List.setIfInBounds_toArray, List.set_cons_zero, List.set_cons_succ, i64_w, i32_w]
                rfl
              refine pure_ (i := 23) (N := some 63) (v := ?_) (a' := ?_) #[true, true, true, true, true, true, true, true, true, true, true, true, true, true, true, true, true, true, true, true, true, true, true, true] rfl rfl (by kernel_rfl) (fun _ _ _ h => h) (Or.inl ⟨by rfl, ?_⟩) ?_ ?_
              rotate_left
              · intro w'
                go_simp
                with_reducible rfl
              rotate_left
              · simp only [Act.put, List.setIfInBounds_toArray, List.set_cons_zero, List.set_cons_succ, i64_w, i32_w]
                rfl
              refine done_ (by kernel_rfl) ?_
              go_wp2
              go_roundg (out.length - (ii + 1))
              case measure => omega
              case rel => exact ⟨ii + 1, at_, by omega, by omega, rfl, by go_num, ⟨by have h_ := HA2.out; rw [hab] at h_; exact h_⟩, ⟨below_drew1 HQ.out⟩⟩
          · have hltz2 : ¬ (ii : Int) < (out.length : Int) := by omega
            have hat : at_ = r := by have h_ := HA.out; rw [List.drop_of_length_le (by omega)] at h_; exact h_
            have n0_ := Aside0.mk (Kd.S_below HS.out HQ.out)
            have n1_ := Aside0.mk (below_step HBr.out HQ.out)
            clear HS HBr HA HQ
            have HS := n0_
            have HBr := n1_
            clear n0_ n1_
            cases hf : out.findIdx? (fitsS (sameP ss ps) kk) with
            | none =>
              have hl_ := HLast.out
              have hput := HPut.out
              rw [hf] at hl_ hput
              dsimp only at hl_ hput
              rw [hl_] at hat
              subst hat
              have HNx := Aside0.mk hput
              have aP_ := one_row 3 wr w4.heap.size (below_size HBr.out) (kk : Int)
              have s0_ : 0 < (Kd.slice 3 (Kd.int .i64)).sz := Nat.one_pos
              have b0_ : 0 < 24 := (by omega)
              have aB_ : Below w4.heap.size w4 (wr.alloc (.cells #[.int .i64 (kk : Int)] 3)) := below_alloc HBr.out _
              have aS_ := aB_.size
              have aL_ : (out.length + 1) * 24 ≤ 140737488355328 := (by have := HI2.out; omega)
              have aK_ : ∀ k_, k_ = wr.heap.size → True ∧ some k_ ≠ (Value.slice A out.length c).ownBlock := (fun k_ e_ => ⟨trivial, fun h_ => Nat.lt_irrefl k_ (by have h2_ := Kd.S_lt HS.out k_ h_.symm; omega)⟩)
              have aO_ := Kd.S_mono (ok' := fun k_ => True ∧ ¬ k_ = wr.heap.size) (Kd.S_alloc (Kd.S_bound HS.out) (.cells #[.int .i64 (kk : Int)] 3)) (fun k_ h_ => ⟨trivial, fun e_ => Nat.lt_irrefl k_ (by have h2_ := h_.2.2.1; omega)⟩)
              have aX_ : Value.slice (some ⟨wr.heap.size + 1, 0, none⟩) 1 1 = .slice (some ⟨(wr.alloc (.cells #[.int .i64 (kk : Int)] 3)).heap.size, 0, none⟩) 1 1 := (by simp)
              go_wp2_with ((with_reducible refine gate_builtin (b := .append) (xs := #[.tmp 68, .tmp 71]) rfl ?_); at_builtin; refine Kd.S_append (Kd.slice 3 (Kd.int .i64)) (w0 := w4) w4.heap.size rfl (.tmp 68) (.tmp 71) 37 22 (.slice none 0 0) 24 rfl Try.underlying37 info22 rfl s0_ b0_ (.slice A out.length c) out [(kk : Int)] [.slice (some ⟨wr.heap.size, 0, none⟩) 1 1] (fun _ => True) (fun k_ => k_ = wr.heap.size) ?aV ?aX ?aP ?aK ?aF ?aO ?aB ?aS ?aL ?_; (case aV => exact rfl); (case aX => exact rfl); (case aP => exact Kd.M_row aP_); (case aK => exact aK_); (case aF => exact fun _ _ => trivial); (case aO => exact aO_); (case aB => exact aB_); (case aS => exact aS_); (case aL => exact aL_); intro v1 w7 ho hb hg hat; have n0_ := Aside0.mk ho; have n1_ := Aside0.mk hb; clear ho hb hg hat HS HBr aP_ aB_ aS_ aK_ aO_ aX_; have HS := n0_; have HBr := n1_; clear n0_ n1_)
              go_roundg (n - (kk + 1))
              case measure => omega
              case rel => exact ⟨kk + 1, by omega, by omega, by go_num, by rw [HNx.out]; exact HS, HBr⟩
            | some i =>
              have hl_ := HLast.out
              have hput := HPut.out
              rw [hf] at hl_ hput
              dsimp only at hl_ hput
              rw [hl_] at hat
              subst hat
              obtain ⟨hi, -⟩ := List.findIdx?_eq_some_iff_getElem.1 hf
              obtain ⟨g, cap, e, hbg, -⟩ := Kd.S_form HS.out (Nat.lt_of_le_of_lt (Nat.zero_le _) hi)
              injection e with e1 e2 e3
              clear e2 e3
              subst e1
              have hil : (i : Int) < (out.length : Int) := Int.ofNat_lt.mpr hi
              have h0i : 0 ≤ (i : Int) := Int.natCast_nonneg i
              have hnn : ¬ (i : Int) < 0 := Int.not_lt.mpr h0i
              obtain ⟨oki, cc, hcl, hM, hcc, hoki, hH⟩ := Kd.S_lend HS.out [] (i : Int) (Int.natCast_nonneg _) hil
              have hxl : (out.getD i []).length ≤ kk := by rw [List.getD_eq_getElem?_getD, List.getElem?_eq_getElem hi]; exact (HI1.out _ (List.getElem_mem hi)).2.1
              rw [Int.toNat_natCast] at hM
              obtain ⟨vi, rfl, hRi⟩ := hM
              have hsz8 : ((i : Int)).toNat * (Kd.slice 3 (Kd.int .i64)).sz + 0 = i := by rw [Int.toNat_natCast]; exact Nat.mul_one i
              have hci := hcc 0 vi rfl
              rw [hsz8] at hci
              have hci2 : wr.cell? ((⟨g, 0, none⟩ : Addr).add i) = some vi := by rw [add_plain]; exact hci
              generalize out.getD i [] = xi at hRi hxl hput
              have HNx := Aside0.mk hput
              have HH := Aside0.mk hH
              have HRi := Aside0.mk hRi
              clear hput hf hcc hcl HS hH hRi hl_
              have aB_ := HBr.out
              have aS_ := aB_.size
              have aL_ : (xi.length + 1) * 8 ≤ 140737488355328 := (by omega)
              have aO_ := Kd.R_mono (ok' := fun k_ => oki k_ ∨ True ∧ wr.heap.size ≤ k_) HRi.out (fun _ hk_ => .inl hk_)
              have aF_ : ∀ k_, wr.heap.size ≤ k_ → (oki k_ ∨ True ∧ wr.heap.size ≤ k_) := fun k_ h_ => .inr ⟨trivial, h_⟩
              have aU_ : ∀ k_, vi.ownBlock = some k_ → (oki k_ ∨ True ∧ wr.heap.size ≤ k_) := fun k_ e_ => .inl (HRi.out.1 k_ e_)
              have i0_ : 0 ≤ (i : Int) := Int.natCast_nonneg _
              go_wp2_with ((with_reducible refine gate_builtin (b := .append) (xs := #[.tmp 78, .tmp 80]) rfl ?_); at_builtin; refine Kd.R_append (Kd.int .i64) (w0 := w4) w4.heap.size rfl (.tmp 78) (.tmp 80) 22 3 (.int .i64 0) 8 rfl Try.underlying22 info3 rfl (by decide) (by omega) vi xi (kk : Int) [.int .i64 (kk : Int)] (fun k_ => oki k_ ∨ True ∧ wr.heap.size ≤ k_) (fun _ => False) rfl rfl ?aP (fun _ hk => hk.elim) ?aF ?aO ?aB ?aS ?aL ?_; (case aP => exact rfl); (case aB => exact aB_); (case aF => exact aF_); (case aO => exact aO_); (case aS => exact aS_); (case aL => exact aL_); intro v8 w8 ho8 hb8 hg8 hat8; obtain ⟨A8, c8, hv8⟩ := Kd.R_slice ho8; subst hv8; have hH8 := Kd.H_grown (Kd.H_widen HH.out) hg8 aU_; have hat9 := Kd.H_at hH8 i0_ hil; have hci8 := hat9.1 0 vi rfl; have hfz8 := hat9.2 0; rw [hsz8] at hci8 hfz8; have hci9 := hci8; have hfz9 := hfz8; rw [← add_plain] at hci9 hfz9; have HH8 := Aside0.mk hH8; have HO8 := Aside0.mk ho8; have HB8 := Aside0.mk hb8; clear hat9 hH8 ho8 hb8 hg8 hat8 aB_ aS_ aO_)
              have hl9 : (xi ++ [(kk : Int)]).length = xi.length + 1 := by simp
              have ho8 := HO8.out
              rw [hl9] at ho8
              have hs9 := Kd.S_seg0 HH8.out (Int.natCast_nonneg _) hil (seg := [.slice A8 (xi.length + 1) c8]) (j := 0) (show 0 + 1 ≤ 1 from by decide) (x' := xi ++ [(kk : Int)]) (Kd.M_row ho8) (fun _ hk => hk)
              rw [hsz8, Int.toNat_natCast] at hs9
              have HS9 := Aside0.mk hs9.1
              have HB9 := Aside0.mk (below_set (j := i) (v := .slice A8 (xi.length + 1) c8) HB8.out hbg)
              clear hs9 hci8 hfz8 hci9 hfz9 ho8
              go_roundg (n - (kk + 1))
              case measure => omega
              case rel => exact ⟨kk + 1, by omega, by omega, by go_num, by rw [HNx.out]; exact HS9, HB9⟩
      · have hltz : ¬ (kk : Int) < (n : Int) := by omega
        obtain rfl : kk = n := by omega
        go_wp2
        go_ret2
        exact ⟨_, rfl, by rw [← HR.out]; exact Kd.S_lower HS.out (below_size HB.out), below_step HB.out HBr.out⟩


/-! ### slices_IndexFunc_int_int_52: function 52 -/
set_option maxHeartbeats 2000000 in
theorem slices_IndexFunc_rows.hof {α : Type} (d : Kd α) (hd : d.sz = 1) (g : Nat) (lb : Array Value) (eg : ∀ args w, (callFunc g args).run Try.prog w = .ok (.enter g args) w) (p : α → Bool) (A : Option Addr) (c : Nat) (l : List α) (w : World)
    (hp : Pred Try.prog g lb d p l w) (hr : Kd.C d w A l.length l) (hc : l.length ≤ c) :
    Calls Try.prog 52 #[.slice A l.length c, .func (.func g) #[] lb] w fun e w' => e = .returned (.int .i64 (idxOf p l)) ∧ Below w.heap.size w w' := by
  have hn : l.length ≤ 9223372036854775807 := hr.2.1
  have HR := Aside0.mk hr
  have HP := Aside0.mk hp
  clear hr hp
  go_enter Try.func52, Try.ntmps52
  go_wp2
  go_loopg [5, 8] l.length (fun gg _ s8 wr => ∃ kk : Nat, kk ≤ l.length ∧ l.length - kk ≤ gg ∧ s8 = .int .i64 kk ∧ Aside0 (Below w.heap.size w wr) ∧ Aside0 (∀ j (hj : j < l.length), j < kk → p l[j] = false))
  case atStart => exact ⟨0, Nat.zero_le _, by omega, rfl, ⟨Below.refl _ w⟩, ⟨fun j _ hj => absurd hj (Nat.not_lt_zero _)⟩⟩
  case round =>
    obtain ⟨kk, hkk, hg, rfl, BW, HA⟩ := hrel
    by_cases hlt : kk < l.length
    · have hltz : (kk : Int) < (l.length : Int) := by omega
      obtain ⟨ad, u, eA, hK, hcell⟩ := C_one hd HR.out kk hlt
      cases eA
      have hcell' : wr.cell? (ad.add kk) = some u := cell_later BW.out hcell
      have hcall := HP.out wr l[kk] u (List.getElem_mem hlt) (d.K_below BW.out hK) BW.out
      clear hcell hK
      generalize hq : p l[kk] = q at hcall
      have Q := Aside0.mk hq
      clear hq
      cases q with
      | true =>
        go_wp2_with (go_at_fn g; refine hcall.mono ?_; rintro e w' ⟨rfl, hb'⟩)
        go_ret
        refine ⟨?_, hb'⟩
        rw [idxOf_hit p l kk hlt Q.out (fun j hj => HA.out j (by omega) hj)]
        rfl
      | false =>
        go_wp2_with (go_at_fn g; refine hcall.mono ?_; rintro e w' ⟨rfl, hb'⟩)
        go_roundg (l.length - (kk + 1))
        case measure => omega
        case rel =>
          refine ⟨kk + 1, by omega, by omega, by go_num, ⟨hb'⟩, ⟨fun j hj hjk => ?_⟩⟩
          by_cases e : j = kk
          · subst e
            exact Q.out
          · exact HA.out j hj (by omega)
    · have hltz : ¬ (kk : Int) < (l.length : Int) := by omega
      go_wp2
      go_ret
      refine ⟨?_, BW.out⟩
      rw [idxOf_miss p l (fun j hj => HA.out j hj (by omega))]
      rfl


-- NOT PRINTED: function 53 (impl_SamePower_1)

/-! ### impl_SamePower: function 21 -/
-- words Same
set_option maxHeartbeats 2000000 in
set_option maxRecDepth 100000 in
theorem impl_SamePower.lit (B5 B8 B6 : Nat) (As Ap : Option Addr) (cs cp : Nat) (ss ps : List Int) (n k : Nat) (L : List (List Int)) (hin : ∀ g ∈ L, 1 ≤ g.length ∧ ∀ x ∈ g, 0 ≤ x ∧ x < (n : Int)) (hkn : k < n) (hns : n ≤ ss.length) (hnp : n ≤ ps.length) (w : World)
    (h5 : w.cell? ⟨B5, 0, none⟩ = some (.slice As ss.length cs)) (h8 : w.cell? ⟨B8, 0, none⟩ = some (.int .i64 (k : Int))) (h6 : w.cell? ⟨B6, 0, none⟩ = some (.slice Ap ps.length cp)) (hrs : Kd.C (Kd.int .i64) w As ss.length ss) (hrp : Kd.C (Kd.int .i64) w Ap ps.length ps) :
    Pred Try.prog 53 #[.pointer (some ⟨B5, 0, none⟩), .pointer (some ⟨B8, 0, none⟩), .pointer (some ⟨B6, 0, none⟩)] (Kd.slice 3 (Kd.int .i64)) (fitsS (fun i => (ss.getD i 0, ps.getD i 0)) k) L w := by
  intro W x v hx hK hbl
  obtain ⟨Ag, cg, hu, hcg, hrg⟩ := hK
  obtain rfl : v = .slice Ag x.length cg := by simpa using hu
  obtain ⟨hx1, hx2⟩ := hin x hx
  have hx0 : 0 < x.length := by omega
  obtain ⟨adg, u0, eAg, hK0, hg0⟩ := C_one (d := Kd.int .i64) rfl hrg 0 hx0
  cases eAg
  obtain ⟨hj0, hj1⟩ := hx2 _ (List.getElem_mem hx0)
  obtain ⟨j, hj⟩ := Int.eq_ofNat_of_zero_le hj0
  rw [hj] at hj1
  obtain rfl : u0 = .int .i64 (j : Int) := by simpa [Kd.int, Kd.scalar, hj] using hK0
  have hjs : j < ss.length := by omega
  have hjp : j < ps.length := by omega
  have hks : k < ss.length := by omega
  have hkp : k < ps.length := by omega
  have hrsW := Kd.C_below hrs hbl
  have hrpW := Kd.C_below hrp hbl
  have c5 := cell_later hbl h5
  have c8 := cell_later hbl h8
  have c6 := cell_later hbl h6
  obtain ⟨ads, ua, eA, hKa, ha⟩ := C_one (d := Kd.int .i64) rfl hrsW j hjs
  cases eA
  obtain ⟨ads', ub, eA, hKb, hb⟩ := C_one (d := Kd.int .i64) rfl hrsW k hks
  cases eA
  obtain ⟨adp, uc, eA, hKc, hc⟩ := C_one (d := Kd.int .i64) rfl hrpW j hjp
  cases eA
  obtain ⟨adp', ud, eA, hKd, hd⟩ := C_one (d := Kd.int .i64) rfl hrpW k hkp
  cases eA
  obtain rfl : ua = .int .i64 ss[j] := by simpa [Kd.int, Kd.scalar] using hKa
  obtain rfl : ub = .int .i64 ss[k] := by simpa [Kd.int, Kd.scalar] using hKb
  obtain rfl : uc = .int .i64 ps[j] := by simpa [Kd.int, Kd.scalar] using hKc
  obtain rfl : ud = .int .i64 ps[k] := by simpa [Kd.int, Kd.scalar] using hKd
  have hp : fitsS (fun i => (ss.getD i 0, ps.getD i 0)) k x = (ss[j] == ss[k] && ps[j] == ps[k]) := by
    have e0 : x.getD 0 0 = (j : Int) := by rw [List.getD_eq_getElem?_getD, List.getElem?_eq_getElem hx0]; exact hj
    unfold fitsS
    rw [e0, Int.toNat_natCast]
    rw [Bool.eq_iff_iff]
    simp [hjs, hks, hjp, hkp]
  rw [hp]
  have HB := Aside0.mk hbl
  have q0 : (0 < x.length) = True := eq_true hx0
  have ead : adg.add 0 = adg := by rcases adg with ⟨b, o, _ | p⟩ <;> simp [Addr.add]
  rw [ead] at hg0
  have q1 : (0 ≤ (j : Int)) = True := eq_true (Int.natCast_nonneg _)
  have q2 : (0 ≤ (k : Int)) = True := eq_true (Int.natCast_nonneg _)
  have q3 : ((j : Int) < (ss.length : Int)) = True := eq_true (by omega)
  have q4 : ((k : Int) < (ss.length : Int)) = True := eq_true (by omega)
  have q5 : ((j : Int) < (ps.length : Int)) = True := eq_true (by omega)
  have q6 : ((k : Int) < (ps.length : Int)) = True := eq_true (by omega)
  clear hp hKa hKb hKc hKd hrs hrp hrsW hrpW hK0 hrg h5 h6 h8 hin hx2 hx hcg hx0 hj hj0 hj1 hns hnp hkn hbl hu hx1
  generalize ss[j] = a at *
  generalize ss[k] = b at *
  generalize ps[j] = c at *
  generalize ps[k] = d at *
  clear hjs hjp hks hkp
  have h5 := c5
  have h6 := c6
  have h8 := c8
  clear c5 c6 c8
  have hdr : Below W.heap.size W W.drew := below_drew1 (Below.refl _ _)
  show Calls Try.prog 53 #[.slice (some adg) x.length cg, .pointer (some ⟨B5, 0, none⟩), .pointer (some ⟨B8, 0, none⟩), .pointer (some ⟨B6, 0, none⟩)] W _
  go_enter Try.func53, Try.ntmps53
  go_wp2_with fail
  cases hab : (a == b) with
  | true =>
    refine start_ (n := 25) (S := fun w' => w'.cell? ⟨B5, 0, none⟩ = some (.slice (some ads) ss.length cs) ∧ w'.cell? ⟨B8, 0, none⟩ = some (.int .i64 (k : Int)) ∧ w'.cell? ⟨B6, 0, none⟩ = some (.slice (some adp) ps.length cp) ∧ w'.cell? adg = some (.int .i64 (j : Int)) ∧ w'.cell? (ads.add j) = some (.int .i64 a) ∧ w'.cell? (ads.add k) = some (.int .i64 b) ∧ w'.cell? (adp.add j) = some (.int .i64 c) ∧ w'.cell? (adp.add k) = some (.int .i64 d)) (ds := []) #[false, false, false, false, false, false, false, false, false, false, false, false, false, false, false, false, false, false, false, false, false, false, false, false, false] (by kernel_rfl) rfl rfl ⟨cell_later hdr h5, cell_later hdr h8, cell_later hdr h6, cell_later hdr hg0, cell_later hdr ha, cell_later hdr hb, cell_later hdr hc, cell_later hdr hd⟩ (fun hHeld => ?_)
    refine pure_ (i := 1) (N := some 7) (v := ?_) (a' := ?_) #[false, true, false, false, false, false, false, false, false, false, false, false, false, false, false, false, false, false, false, false, false, false, false, false, false] rfl rfl (by kernel_rfl) (fun _ _ _ h => h) (Or.inl ⟨by rfl, ?_⟩) ?_ ?_
    rotate_left
    · intro w'
      go_simp
      with_reducible rfl
    rotate_left
    · simp only [Act.put, List.setIfInBounds_toArray, List.set_cons_zero, List.set_cons_succ, i64_w, i32_w]
      rfl
    refine pure_ (i := 2) (N := some 8) (v := ?_) (a' := ?_) #[false, true, true, false, false, false, false, false, false, false, false, false, false, false, false, false, false, false, false, false, false, false, false, false, false] rfl rfl (by kernel_rfl) (fun _ _ _ h => h) (Or.inl ⟨by rfl, ?_⟩) ?_ ?_
    rotate_left
    · intro w'
      go_simp
      with_reducible rfl
    rotate_left
    · simp only [Act.put, List.setIfInBounds_toArray, List.set_cons_zero, List.set_cons_succ, i64_w, i32_w]
      rfl
    refine take_ (i := 0) (N := some 6) (v := ?_) (a' := ?_) #[true, true, true, false, false, false, false, false, false, false, false, false, false, false, false, false, false, false, false, false, false, false, false, false, false] rfl rfl (by kernel_rfl) (fun _ _ _ h => h) (Or.inl ⟨by rfl, ?_⟩) hHeld ?_ ?_
    rotate_left
    · rintro w' ⟨s0, s1, s2, s3, s4, s5, s6, s7⟩
      go_simp
      with_reducible rfl
    rotate_left
    · simp only [Act.put, List.setIfInBounds_toArray, List.set_cons_zero, List.set_cons_succ, i64_w, i32_w]
      rfl
    refine take_ (i := 3) (N := some 9) (v := ?_) (a' := ?_) #[true, true, true, true, false, false, false, false, false, false, false, false, false, false, false, false, false, false, false, false, false, false, false, false, false] rfl rfl (by kernel_rfl) (fun _ _ _ h => h) (Or.inl ⟨by rfl, ?_⟩) hHeld ?_ ?_
    rotate_left
    · rintro w' ⟨s0, s1, s2, s3, s4, s5, s6, s7⟩
      go_simp
      with_reducible rfl
    rotate_left
    · simp only [Act.put, List.setIfInBounds_toArray, List.set_cons_zero, List.set_cons_succ, i64_w, i32_w]
      rfl
    refine pure_ (i := 4) (N := some 10) (v := ?_) (a' := ?_) #[true, true, true, true, true, false, false, false, false, false, false, false, false, false, false, false, false, false, false, false, false, false, false, false, false] rfl rfl (by kernel_rfl) (fun _ _ _ h => h) (Or.inl ⟨by rfl, ?_⟩) ?_ ?_
    rotate_left
    · intro w'
      go_simp
      with_reducible rfl
    rotate_left
    · simp only [Act.put, List.setIfInBounds_toArray, List.set_cons_zero, List.set_cons_succ, i64_w, i32_w]
      rfl
    refine take_ (i := 5) (N := some 11) (v := ?_) (a' := ?_) #[true, true, true, true, true, true, false, false, false, false, false, false, false, false, false, false, false, false, false, false, false, false, false, false, false] rfl rfl (by kernel_rfl) (fun _ _ _ h => h) (Or.inl ⟨by rfl, ?_⟩) hHeld ?_ ?_
    rotate_left
    · rintro w' ⟨s0, s1, s2, s3, s4, s5, s6, s7⟩
      go_simp
      with_reducible rfl
    rotate_left
    · simp only [Act.put, List.setIfInBounds_toArray, List.set_cons_zero, List.set_cons_succ, i64_w, i32_w]
      rfl
    refine take_ (i := 6) (N := some 12) (v := ?_) (a' := ?_) #[true, true, true, true, true, true, true, false, false, false, false, false, false, false, false, false, false, false, false, false, false, false, false, false, false] rfl rfl (by kernel_rfl) (fun _ _ _ h => h) (Or.inl ⟨by rfl, ?_⟩) hHeld ?_ ?_
    rotate_left
    · rintro w' ⟨s0, s1, s2, s3, s4, s5, s6, s7⟩
      go_simp
      with_reducible rfl
    rotate_left
    · simp only [Act.put, List.setIfInBounds_toArray, List.set_cons_zero, List.set_cons_succ, i64_w, i32_w]
      rfl
    refine take_ (i := 7) (N := some 13) (v := ?_) (a' := ?_) #[true, true, true, true, true, true, true, true, false, false, false, false, false, false, false, false, false, false, false, false, false, false, false, false, false] rfl rfl (by kernel_rfl) (fun _ _ _ h => h) (Or.inl ⟨by rfl, ?_⟩) hHeld ?_ ?_
    rotate_left
    · rintro w' ⟨s0, s1, s2, s3, s4, s5, s6, s7⟩
      go_simp
      with_reducible rfl
    rotate_left
    · simp only [Act.put, List.setIfInBounds_toArray, List.set_cons_zero, List.set_cons_succ, i64_w, i32_w]
      rfl
    refine pure_ (i := 8) (N := some 14) (v := ?_) (a' := ?_) #[true, true, true, true, true, true, true, true, true, false, false, false, false, false, false, false, false, false, false, false, false, false, false, false, false] rfl rfl (by kernel_rfl) (fun _ _ _ h => h) (Or.inl ⟨by rfl, ?_⟩) ?_ ?_
    rotate_left
    · intro w'
      go_simp
      with_reducible rfl
    rotate_left
    · simp only [Act.put, List.setIfInBounds_toArray, List.set_cons_zero, List.set_cons_succ, i64_w, i32_w]
      rfl
    refine take_ (i := 9) (N := some 15) (v := ?_) (a' := ?_) #[true, true, true, true, true, true, true, true, true, true, false, false, false, false, false, false, false, false, false, false, false, false, false, false, false] rfl rfl (by kernel_rfl) (fun _ _ _ h => h) (Or.inl ⟨by rfl, ?_⟩) hHeld ?_ ?_
    rotate_left
    · rintro w' ⟨s0, s1, s2, s3, s4, s5, s6, s7⟩
      go_simp
      with_reducible rfl
    rotate_left
    · simp only [Act.put, List.setIfInBounds_toArray, List.set_cons_zero, List.set_cons_succ, i64_w, i32_w]
      rfl
    refine pure_ (i := 10) (N := some 16) (v := ?_) (a' := ?_) #[true, true, true, true, true, true, true, true, true, true, true, false, false, false, false, false, false, false, false, false, false, false, false, false, false] rfl rfl (by kernel_rfl) (fun _ _ _ h => h) (Or.inl ⟨by rfl, ?_⟩) ?_ ?_
    rotate_left
    · intro w'
      go_simp
      with_reducible rfl
    rotate_left
    · simp only [Act.put, List.setIfInBounds_toArray, List.set_cons_zero, List.set_cons_succ, i64_w, i32_w]
      rfl
    refine pure_ (i := 11) (N := some 17) (v := ?_) (a' := ?_) #[true, true, true, true, true, true, true, true, true, true, true, true, false, false, false, false, false, false, false, false, false, false, false, false, false] rfl rfl (by kernel_rfl) (fun _ _ _ h => h) (Or.inl ⟨by rfl, ?_⟩) ?_ ?_
    rotate_left
    · intro w'
      go_simp
      with_reducible rfl
    rotate_left
    · simp only [Act.put, List.setIfInBounds_toArray, List.set_cons_zero, List.set_cons_succ, i64_w, i32_w]
      rfl
    refine pure_ (i := 13) (N := some 19) (v := ?_) (a' := ?_) #[true, true, true, true, true, true, true, true, true, true, true, true, false, true, false, false, false, false, false, false, false, false, false, false, false] rfl rfl (by kernel_rfl) (fun _ _ _ h => h) (Or.inl ⟨by rfl, ?_⟩) ?_ ?_
    rotate_left
    · intro w'
      go_simp
      with_reducible rfl
    rotate_left
    · simp only [Act.put, List.setIfInBounds_toArray, List.set_cons_zero, List.set_cons_succ, i64_w, i32_w]
      rfl
    refine pure_ (i := 14) (N := some 20) (v := ?_) (a' := ?_) #[true, true, true, true, true, true, true, true, true, true, true, true, false, true, true, false, false, false, false, false, false, false, false, false, false] rfl rfl (by kernel_rfl) (fun _ _ _ h => h) (Or.inl ⟨by rfl, ?_⟩) ?_ ?_
    rotate_left
    · intro w'
      go_simp
      with_reducible rfl
    rotate_left
    · simp only [Act.put, List.setIfInBounds_toArray, List.set_cons_zero, List.set_cons_succ, i64_w, i32_w]
      rfl
    refine take_ (i := 12) (N := some 18) (v := ?_) (a' := ?_) #[true, true, true, true, true, true, true, true, true, true, true, true, true, true, true, false, false, false, false, false, false, false, false, false, false] rfl rfl (by kernel_rfl) (fun _ _ _ h => h) (Or.inl ⟨by rfl, ?_⟩) hHeld ?_ ?_
    rotate_left
    · rintro w' ⟨s0, s1, s2, s3, s4, s5, s6, s7⟩
      go_simp
      with_reducible rfl
    rotate_left
    · simp only [Act.put, List.setIfInBounds_toArray, List.set_cons_zero, List.set_cons_succ, i64_w, i32_w]
      rfl
    refine take_ (i := 15) (N := some 21) (v := ?_) (a' := ?_) #[true, true, true, true, true, true, true, true, true, true, true, true, true, true, true, true, false, false, false, false, false, false, false, false, false] rfl rfl (by kernel_rfl) (fun _ _ _ h => h) (Or.inl ⟨by rfl, ?_⟩) hHeld ?_ ?_
    rotate_left
    · rintro w' ⟨s0, s1, s2, s3, s4, s5, s6, s7⟩
      go_simp
      with_reducible rfl
    rotate_left
    · simp only [Act.put, List.setIfInBounds_toArray, List.set_cons_zero, List.set_cons_succ, i64_w, i32_w]
      rfl
    refine pure_ (i := 16) (N := some 22) (v := ?_) (a' := ?_) #[true, true, true, true, true, true, true, true, true, true, true, true, true, true, true, true, true, false, false, false, false, false, false, false, false] rfl rfl (by kernel_rfl) (fun _ _ _ h => h) (Or.inl ⟨by rfl, ?_⟩) ?_ ?_
    rotate_left
    · intro w'
      go_simp
      with_reducible rfl
    rotate_left
    · simp only [Act.put, List.setIfInBounds_toArray, List.set_cons_zero, List.set_cons_succ, i64_w, i32_w]
      rfl
    refine take_ (i := 17) (N := some 23) (v := ?_) (a' := ?_) #[true, true, true, true, true, true, true, true, true, true, true, true, true, true, true, true, true, true, false, false, false, false, false, false, false] rfl rfl (by kernel_rfl) (fun _ _ _ h => h) (Or.inl ⟨by rfl, ?_⟩) hHeld ?_ ?_
    rotate_left
    · rintro w' ⟨s0, s1, s2, s3, s4, s5, s6, s7⟩
      go_simp
      with_reducible rfl
    rotate_left
    · simp only [Act.put, List.setIfInBounds_toArray, List.set_cons_zero, List.set_cons_succ, i64_w, i32_w]
      rfl
    refine take_ (i := 18) (N := some 24) (v := ?_) (a' := ?_) #[true, true, true, true, true, true, true, true, true, true, true, true, true, true, true, true, true, true, true, false, false, false, false, false, false] rfl rfl (by kernel_rfl) (fun _ _ _ h => h) (Or.inl ⟨by rfl, ?_⟩) hHeld ?_ ?_
    rotate_left
    · rintro w' ⟨s0, s1, s2, s3, s4, s5, s6, s7⟩
      go_simp
      with_reducible rfl
    rotate_left
    · simp only [Act.put, List.setIfInBounds_toArray, List.set_cons_zero, List.set_cons_succ, i64_w, i32_w]
      rfl
    refine take_ (i := 19) (N := some 25) (v := ?_) (a' := ?_) #[true, true, true, true, true, true, true, true, true, true, true, true, true, true, true, true, true, true, true, true, false, false, false, false, false] rfl rfl (by kernel_rfl) (fun _ _ _ h => h) (Or.inl ⟨by rfl, ?_⟩) hHeld ?_ ?_
    rotate_left
    · rintro w' ⟨s0, s1, s2, s3, s4, s5, s6, s7⟩
      go_simp
      with_reducible rfl
    rotate_left
    · simp only [Act.put, List.setIfInBounds_toArray, List.set_cons_zero, List.set_cons_succ, i64_w, i32_w]
      rfl
    refine pure_ (i := 20) (N := some 26) (v := ?_) (a' := ?_) #[true, true, true, true, true, true, true, true, true, true, true, true, true, true, true, true, true, true, true, true, true, false, false, false, false] rfl rfl (by kernel_rfl) (fun _ _ _ h => h) (Or.inl ⟨by rfl, ?_⟩) ?_ ?_
    rotate_left
    · intro w'
      go_simp
      with_reducible rfl
    rotate_left
    · simp only [Act.put, List.setIfInBounds_toArray, List.set_cons_zero, List.set_cons_succ, i64_w, i32_w]
      rfl
    refine take_ (i := 21) (N := some 27) (v := ?_) (a' := ?_) #[true, true, true, true, true, true, true, true, true, true, true, true, true, true, true, true, true, true, true, true, true, true, false, false, false] rfl rfl (by kernel_rfl) (fun _ _ _ h => h) (Or.inl ⟨by rfl, ?_⟩) hHeld ?_ ?_
    rotate_left
    · rintro w' ⟨s0, s1, s2, s3, s4, s5, s6, s7⟩
      go_simp
      with_reducible rfl
    rotate_left
    · simp only [Act.put, List.setIfInBounds_toArray, List.set_cons_zero, List.set_cons_succ, i64_w, i32_w]
      rfl
    refine pure_ (i := 22) (N := some 28) (v := ?_) (a' := ?_) #[true, true, true, true, true, true, true, true, true, true, true, true, true, true, true, true, true, true, true, true, true, true, true, false, false] rfl rfl (by kernel_rfl) (fun _ _ _ h => h) (Or.inl ⟨by rfl, ?_⟩) ?_ ?_
    rotate_left
    · intro w'
      go_simp
      with_reducible rfl
    rotate_left
    · simp only [Act.put, List.setIfInBounds_toArray, List.set_cons_zero, List.set_cons_succ, i64_w, i32_w]
      rfl
    refine pure_ (i := 23) (N := some 29) (v := ?_) (a' := ?_) #[true, true, true, true, true, true, true, true, true, true, true, true, true, true, true, true, true, true, true, true, true, true, true, true, false] rfl rfl (by kernel_rfl) (fun _ _ _ h => h) (Or.inl ⟨by rfl, ?_⟩) ?_ ?_
    rotate_left
    · intro w'
      go_simp
      with_reducible rfl
    rotate_left
    · simp only [Act.put, List.setIfInBounds_toArray, List.set_cons_zero, List.set_cons_succ, i64_w, i32_w]
      rfl
    refine pure_ (i := 24) (N := some 5) (v := ?_) (a' := ?_) #[true, true, true, true, true, true, true, true, true, true, true, true, true, true, true, true, true, true, true, true, true, true, true, true, true] rfl rfl (by kernel_rfl) (fun _ _ _ h => h) (Or.inl ⟨by rfl, ?_⟩) ?_ ?_
    rotate_left
    · intro w'
      go_simp
      with_reducible rfl
    rotate_left
    · simp only [Act.put, List.setIfInBounds_toArray, List.set_cons_zero, List.set_cons_succ, i64_w, i32_w]
      rfl
    refine done_ (by kernel_rfl) ?_
    go_wp2
    go_ret
    exact ⟨by rw [hab, Bool.true_and]; rfl, below_drew1 HB.out⟩
  | false =>
    refine start_ (n := 25) (S := fun w' => w'.cell? ⟨B5, 0, none⟩ = some (.slice (some ads) ss.length cs) ∧ w'.cell? ⟨B8, 0, none⟩ = some (.int .i64 (k : Int)) ∧ w'.cell? ⟨B6, 0, none⟩ = some (.slice (some adp) ps.length cp) ∧ w'.cell? adg = some (.int .i64 (j : Int)) ∧ w'.cell? (ads.add j) = some (.int .i64 a) ∧ w'.cell? (ads.add k) = some (.int .i64 b) ∧ w'.cell? (adp.add j) = some (.int .i64 c) ∧ w'.cell? (adp.add k) = some (.int .i64 d)) (ds := []) #[false, false, false, false, false, false, false, false, false, false, false, false, false, false, false, false, false, false, false, false, false, false, false, false, false] (by kernel_rfl) rfl rfl ⟨cell_later hdr h5, cell_later hdr h8, cell_later hdr h6, cell_later hdr hg0, cell_later hdr ha, cell_later hdr hb, cell_later hdr hc, cell_later hdr hd⟩ (fun hHeld => ?_)
    refine pure_ (i := 1) (N := some 7) (v := ?_) (a' := ?_) #[false, true, false, false, false, false, false, false, false, false, false, false, false, false, false, false, false, false, false, false, false, false, false, false, false] rfl rfl (by kernel_rfl) (fun _ _ _ h => h) (Or.inl ⟨by rfl, ?_⟩) ?_ ?_
    rotate_left
    · intro w'
      go_simp
      with_reducible rfl
    rotate_left
    · simp only [Act.put, List.setIfInBounds_toArray, List.set_cons_zero, List.set_cons_succ, i64_w, i32_w]
      rfl
    refine pure_ (i := 2) (N := some 8) (v := ?_) (a' := ?_) #[false, true, true, false, false, false, false, false, false, false, false, false, false, false, false, false, false, false, false, false, false, false, false, false, false] rfl rfl (by kernel_rfl) (fun _ _ _ h => h) (Or.inl ⟨by rfl, ?_⟩) ?_ ?_
    rotate_left
    · intro w'
      go_simp
      with_reducible rfl
    rotate_left
    · simp only [Act.put, List.setIfInBounds_toArray, List.set_cons_zero, List.set_cons_succ, i64_w, i32_w]
      rfl
    refine take_ (i := 0) (N := some 6) (v := ?_) (a' := ?_) #[true, true, true, false, false, false, false, false, false, false, false, false, false, false, false, false, false, false, false, false, false, false, false, false, false] rfl rfl (by kernel_rfl) (fun _ _ _ h => h) (Or.inl ⟨by rfl, ?_⟩) hHeld ?_ ?_
    rotate_left
    · rintro w' ⟨s0, s1, s2, s3, s4, s5, s6, s7⟩
      go_simp
      with_reducible rfl
    rotate_left
    · simp only [Act.put, List.setIfInBounds_toArray, List.set_cons_zero, List.set_cons_succ, i64_w, i32_w]
      rfl
    refine take_ (i := 3) (N := some 9) (v := ?_) (a' := ?_) #[true, true, true, true, false, false, false, false, false, false, false, false, false, false, false, false, false, false, false, false, false, false, false, false, false] rfl rfl (by kernel_rfl) (fun _ _ _ h => h) (Or.inl ⟨by rfl, ?_⟩) hHeld ?_ ?_
    rotate_left
    · rintro w' ⟨s0, s1, s2, s3, s4, s5, s6, s7⟩
      go_simp
      with_reducible rfl
    rotate_left
    · simp only [Act.put, List.setIfInBounds_toArray, List.set_cons_zero, List.set_cons_succ, i64_w, i32_w]
      rfl
    refine pure_ (i := 4) (N := some 10) (v := ?_) (a' := ?_) #[true, true, true, true, true, false, false, false, false, false, false, false, false, false, false, false, false, false, false, false, false, false, false, false, false] rfl rfl (by kernel_rfl) (fun _ _ _ h => h) (Or.inl ⟨by rfl, ?_⟩) ?_ ?_
    rotate_left
    · intro w'
      go_simp
      with_reducible rfl
    rotate_left
    · simp only [Act.put, List.setIfInBounds_toArray, List.set_cons_zero, List.set_cons_succ, i64_w, i32_w]
      rfl
    refine take_ (i := 5) (N := some 11) (v := ?_) (a' := ?_) #[true, true, true, true, true, true, false, false, false, false, false, false, false, false, false, false, false, false, false, false, false, false, false, false, false] rfl rfl (by kernel_rfl) (fun _ _ _ h => h) (Or.inl ⟨by rfl, ?_⟩) hHeld ?_ ?_
    rotate_left
    · rintro w' ⟨s0, s1, s2, s3, s4, s5, s6, s7⟩
      go_simp
      with_reducible rfl
    rotate_left
    · simp only [Act.put, List.setIfInBounds_toArray, List.set_cons_zero, List.set_cons_succ, i64_w, i32_w]
      rfl
    refine take_ (i := 6) (N := some 12) (v := ?_) (a' := ?_) #[true, true, true, true, true, true, true, false, false, false, false, false, false, false, false, false, false, false, false, false, false, false, false, false, false] rfl rfl (by kernel_rfl) (fun _ _ _ h => h) (Or.inl ⟨by rfl, ?_⟩) hHeld ?_ ?_
    rotate_left
    · rintro w' ⟨s0, s1, s2, s3, s4, s5, s6, s7⟩
      go_simp
      with_reducible rfl
    rotate_left
    · simp only [Act.put, List.setIfInBounds_toArray, List.set_cons_zero, List.set_cons_succ, i64_w, i32_w]
      rfl
    refine take_ (i := 7) (N := some 13) (v := ?_) (a' := ?_) #[true, true, true, true, true, true, true, true, false, false, false, false, false, false, false, false, false, false, false, false, false, false, false, false, false] rfl rfl (by kernel_rfl) (fun _ _ _ h => h) (Or.inl ⟨by rfl, ?_⟩) hHeld ?_ ?_
    rotate_left
    · rintro w' ⟨s0, s1, s2, s3, s4, s5, s6, s7⟩
      go_simp
      with_reducible rfl
    rotate_left
    · simp only [Act.put, List.setIfInBounds_toArray, List.set_cons_zero, List.set_cons_succ, i64_w, i32_w]
      rfl
    refine pure_ (i := 8) (N := some 14) (v := ?_) (a' := ?_) #[true, true, true, true, true, true, true, true, true, false, false, false, false, false, false, false, false, false, false, false, false, false, false, false, false] rfl rfl (by kernel_rfl) (fun _ _ _ h => h) (Or.inl ⟨by rfl, ?_⟩) ?_ ?_
    rotate_left
    · intro w'
      go_simp
      with_reducible rfl
    rotate_left
    · simp only [Act.put, List.setIfInBounds_toArray, List.set_cons_zero, List.set_cons_succ, i64_w, i32_w]
      rfl
    refine take_ (i := 9) (N := some 15) (v := ?_) (a' := ?_) #[true, true, true, true, true, true, true, true, true, true, false, false, false, false, false, false, false, false, false, false, false, false, false, false, false] rfl rfl (by kernel_rfl) (fun _ _ _ h => h) (Or.inl ⟨by rfl, ?_⟩) hHeld ?_ ?_
    rotate_left
    · rintro w' ⟨s0, s1, s2, s3, s4, s5, s6, s7⟩
      go_simp
      with_reducible rfl
    rotate_left
    · simp only [Act.put, List.setIfInBounds_toArray, List.set_cons_zero, List.set_cons_succ, i64_w, i32_w]
      rfl
    refine pure_ (i := 10) (N := some 16) (v := ?_) (a' := ?_) #[true, true, true, true, true, true, true, true, true, true, true, false, false, false, false, false, false, false, false, false, false, false, false, false, false] rfl rfl (by kernel_rfl) (fun _ _ _ h => h) (Or.inl ⟨by rfl, ?_⟩) ?_ ?_
    rotate_left
    · intro w'
      go_simp
      with_reducible rfl
    rotate_left
    · simp only [Act.put, List.setIfInBounds_toArray, List.set_cons_zero, List.set_cons_succ, i64_w, i32_w]
      rfl
    refine pure_ (i := 11) (N := some 17) (v := ?_) (a' := ?_) #[true, true, true, true, true, true, true, true, true, true, true, true, false, false, false, false, false, false, false, false, false, false, false, false, false] rfl rfl (by kernel_rfl) (fun _ _ _ h => h) (Or.inl ⟨by rfl, ?_⟩) ?_ ?_
    rotate_left
    · intro w'
      go_simp
      with_reducible rfl
    rotate_left
    · simp only [Act.put, List.setIfInBounds_toArray, List.set_cons_zero, List.set_cons_succ, i64_w, i32_w]
      rfl
    refine pure_ (i := 12) (N := some 18) (v := undef) (a' := ?_) #[true, true, true, true, true, true, true, true, true, true, true, true, true, false, false, false, false, false, false, false, false, false, false, false, false] rfl rfl (by kernel_rfl) (fun _ _ _ h => h) (Or.inr ⟨by rfl, rfl⟩) ?_ ?_
    rotate_left
    · simp only [Act.put, List.setIfInBounds_toArray, List.set_cons_zero, List.set_cons_succ, i64_w, i32_w]
      rfl
    refine pure_ (i := 13) (N := some 19) (v := undef) (a' := ?_) #[true, true, true, true, true, true, true, true, true, true, true, true, true, true, false, false, false, false, false, false, false, false, false, false, false] rfl rfl (by kernel_rfl) (fun _ _ _ h => h) (Or.inr ⟨by rfl, rfl⟩) ?_ ?_
    rotate_left
    · simp only [Act.put, List.setIfInBounds_toArray, List.set_cons_zero, List.set_cons_succ, i64_w, i32_w]
      rfl
    refine pure_ (i := 14) (N := some 20) (v := undef) (a' := ?_) #[true, true, true, true, true, true, true, true, true, true, true, true, true, true, true, false, false, false, false, false, false, false, false, false, false] rfl rfl (by kernel_rfl) (fun _ _ _ h => h) (Or.inr ⟨by rfl, rfl⟩) ?_ ?_
    rotate_left
    · simp only [Act.put, List.setIfInBounds_toArray, List.set_cons_zero, List.set_cons_succ, i64_w, i32_w]
      rfl
    refine pure_ (i := 15) (N := some 21) (v := undef) (a' := ?_) #[true, true, true, true, true, true, true, true, true, true, true, true, true, true, true, true, false, false, false, false, false, false, false, false, false] rfl rfl (by kernel_rfl) (fun _ _ _ h => h) (Or.inr ⟨by rfl, rfl⟩) ?_ ?_
    rotate_left
    · simp only [Act.put, List.setIfInBounds_toArray, List.set_cons_zero, List.set_cons_succ, i64_w, i32_w]
      rfl
    refine pure_ (i := 16) (N := some 22) (v := undef) (a' := ?_) #[true, true, true, true, true, true, true, true, true, true, true, true, true, true, true, true, true, false, false, false, false, false, false, false, false] rfl rfl (by kernel_rfl) (fun _ _ _ h => h) (Or.inr ⟨by rfl, rfl⟩) ?_ ?_
    rotate_left
    · simp only [Act.put, List.setIfInBounds_toArray, List.set_cons_zero, List.set_cons_succ, i64_w, i32_w]
      rfl
    refine pure_ (i := 17) (N := some 23) (v := undef) (a' := ?_) #[true, true, true, true, true, true, true, true, true, true, true, true, true, true, true, true, true, true, false, false, false, false, false, false, false] rfl rfl (by kernel_rfl) (fun _ _ _ h => h) (Or.inr ⟨by rfl, rfl⟩) ?_ ?_
    rotate_left
    · simp only [Act.put, List.setIfInBounds_toArray, List.set_cons_zero, List.set_cons_succ, i64_w, i32_w]
      rfl
    refine pure_ (i := 18) (N := some 24) (v := undef) (a' := ?_) #[true, true, true, true, true, true, true, true, true, true, true, true, true, true, true, true, true, true, true, false, false, false, false, false, false] rfl rfl (by kernel_rfl) (fun _ _ _ h => h) (Or.inr ⟨by rfl, rfl⟩) ?_ ?_
    rotate_left
    · simp only [Act.put, List.setIfInBounds_toArray, List.set_cons_zero, List.set_cons_succ, i64_w, i32_w]
      rfl
    refine pure_ (i := 19) (N := some 25) (v := undef) (a' := ?_) #[true, true, true, true, true, true, true, true, true, true, true, true, true, true, true, true, true, true, true, true, false, false, false, false, false] rfl rfl (by kernel_rfl) (fun _ _ _ h => h) (Or.inr ⟨by rfl, rfl⟩) ?_ ?_
    rotate_left
    · simp only [Act.put, List.setIfInBounds_toArray, List.set_cons_zero, List.set_cons_succ, i64_w, i32_w]
      rfl
    refine pure_ (i := 20) (N := some 26) (v := undef) (a' := ?_) #[true, true, true, true, true, true, true, true, true, true, true, true, true, true, true, true, true, true, true, true, true, false, false, false, false] rfl rfl (by kernel_rfl) (fun _ _ _ h => h) (Or.inr ⟨by rfl, rfl⟩) ?_ ?_
    rotate_left
    · simp only [Act.put, List.setIfInBounds_toArray, List.set_cons_zero, List.set_cons_succ, i64_w, i32_w]
      rfl
    refine pure_ (i := 21) (N := some 27) (v := undef) (a' := ?_) #[true, true, true, true, true, true, true, true, true, true, true, true, true, true, true, true, true, true, true, true, true, true, false, false, false] rfl rfl (by kernel_rfl) (fun _ _ _ h => h) (Or.inr ⟨by rfl, rfl⟩) ?_ ?_
    rotate_left
    · simp only [Act.put, List.setIfInBounds_toArray, List.set_cons_zero, List.set_cons_succ, i64_w, i32_w]
      rfl
    refine pure_ (i := 22) (N := some 28) (v := undef) (a' := ?_) #[true, true, true, true, true, true, true, true, true, true, true, true, true, true, true, true, true, true, true, true, true, true, true, false, false] rfl rfl (by kernel_rfl) (fun _ _ _ h => h) (Or.inr ⟨by rfl, rfl⟩) ?_ ?_
    rotate_left
    · simp only [Act.put, List.setIfInBounds_toArray, List.set_cons_zero, List.set_cons_succ, i64_w, i32_w]
      rfl
    refine pure_ (i := 23) (N := some 29) (v := ?_) (a' := ?_) #[true, true, true, true, true, true, true, true, true, true, true, true, true, true, true, true, true, true, true, true, true, true, true, true, false] rfl rfl (by kernel_rfl) (fun _ _ _ h => h) (Or.inl ⟨by rfl, ?_⟩) ?_ ?_
    rotate_left
    · intro w'
      go_simp
      with_reducible rfl
    rotate_left
    · simp only [Act.put, List.setIfInBounds_toArray, List.set_cons_zero, List.set_cons_succ, i64_w, i32_w]
      rfl
    refine pure_ (i := 24) (N := some 5) (v := ?_) (a' := ?_) #[true, true, true, true, true, true, true, true, true, true, true, true, true, true, true, true, true, true, true, true, true, true, true, true, true] rfl rfl (by kernel_rfl) (fun _ _ _ h => h) (Or.inl ⟨by rfl, ?_⟩) ?_ ?_
    rotate_left
    · intro w'
      go_simp
      with_reducible rfl
    rotate_left
    · simp only [Act.put, List.setIfInBounds_toArray, List.set_cons_zero, List.set_cons_succ, i64_w, i32_w]
      rfl
    refine done_ (by kernel_rfl) ?_
    go_wp2
    go_ret
    exact ⟨by rw [hab, Bool.false_and]; rfl, below_drew1 HB.out⟩
def impl_SamePower.f (k : Nat) (a0_0 : Int) (l0_1 : List Int) : Option (List (List Int) × Bool) := (impl_IsCommittee.f k a0_0 l0_1).bind fun b => if b = true then ((impl_Committee_votes.f a0_0 l0_1).bind fun v => (impl_votes_swings.f k v.1 v.2).bind fun ss => (impl_votes_pivots.f k v.1 v.2).bind fun ps => if 0 ≤ v.1 ∧ v.1 ≤ 1000 ∧ v.1 ≤ (ss.length : Int) ∧ v.1 ≤ (ps.length : Int) then some (sameS (sameP ss ps) v.1.toNat, true) else none) else some ([], false)
theorem impl_SamePower.mono : ∀ a0 a1 k, LeO (impl_SamePower.f k a0 a1) (impl_SamePower.f (k + 1) a0 a1) := fun a0 a1 k => LeO.bind (impl_IsCommittee.mono a0 a1 k) (fun _ => LeO.ite (LeO.bind (LeO.refl _) (fun _ => LeO.bind (impl_votes_swings.mono _ _ k) (fun _ => LeO.bind (impl_votes_pivots.mono _ _ k) (fun _ => LeO.refl _)))) (LeO.refl _))
set_option maxHeartbeats 8000000 in
set_option maxRecDepth 100000 in
theorem impl_SamePower.calls (k : Nat) (a0_0 : Int) (A0_1 : Option Addr) (c0_1 : Nat) (l0_1 : List Int) (r1 : List (List Int)) (r2 : Bool) (w : World) (hr0_1 : Kd.C (Kd.int .i64) w A0_1 l0_1.length l0_1) (hc0_1 : l0_1.length ≤ c0_1) (h : impl_SamePower.f k a0_0 l0_1 = some (r1, r2)) :
    Calls Try.prog 21 #[.agg #[.int .i64 a0_0, .slice A0_1 l0_1.length c0_1]] w fun e w' => ∃ v0_ : Value, e = .returned (.tuple #[v0_, .bool r2]) ∧ Kd.S (Kd.slice 3 (Kd.int .i64)) 22 w' w.heap.size (fun _ => True) v0_ r1 ∧ Below w.heap.size w w' := by
  have hu := Try.underlying28
  have hu2 := Try.underlying58
  have hmf : ∀ (fn : Fn) (first cap : Array Value) (w : World), (Instr.makeFunc fn first cap).run Try.prog w = .ok (.func fn first cap) w := fun _ _ _ _ => rfl
  unfold impl_SamePower.f at h
  obtain ⟨b, hb, h0⟩ := Option.bind_eq_some_iff.1 h
  clear h
  have h := h0
  clear h0
  have HCom := Aside0.mk (fun W (hW : Below w.heap.size w W) => impl_IsCommittee.calls k a0_0 A0_1 c0_1 l0_1 b W (Kd.C_below hr0_1 hW) hc0_1 hb)
  have HB := Aside0.mk (Below.refl w.heap.size w)
  clear hb
  cases b with
  | false =>
    rw [if_neg (by decide)] at h
    simp only [Option.some.injEq, Prod.mk.injEq] at h
    obtain ⟨rfl, rfl⟩ := h
    clear hr0_1
    go_enter Try.func21, Try.ntmps21
    go_wp2_with (go_at_call 50; refine (HCom.out _ (by repeat (first | exact HB.out | apply below_alloc))).mono ?_; rintro e w1 ⟨rfl, hb1⟩; have n0_ := Aside0.mk (below_then (below_alloc HB.out _) (by simp) hb1); clear HB hb1; have HB := n0_; clear n0_)
    go_ret2
    exact ⟨_, rfl, Kd.S_nil _ _ _ _ _, HB.out⟩
  | true =>
    rw [if_pos rfl] at h
    obtain ⟨⟨nz, ws⟩, hv, h3⟩ := Option.bind_eq_some_iff.1 h
    clear h
    obtain ⟨ss, hss, h4⟩ := Option.bind_eq_some_iff.1 h3
    clear h3
    obtain ⟨ps, hps, h⟩ := Option.bind_eq_some_iff.1 h4
    clear h4
    dsimp only at hss hps h
    split at h
    case isFalse => cases h
    rename_i hg
    obtain ⟨g0, g1, g2, g3⟩ := hg
    simp only [Option.some.injEq, Prod.mk.injEq] at h
    obtain ⟨n, rfl⟩ := Int.eq_ofNat_of_zero_le g0
    rw [Int.toNat_natCast] at h
    obtain ⟨hres, hr2⟩ := h
    subst hr2
    have HR := Aside0.mk hres
    have HSw := Aside0.mk (fun A c W (hW : Kd.C Kd.bool W A ws.length ws) (hc : ws.length ≤ c) => impl_votes_swings.calls k n A c ws ss W hW hc hss)
    have HPi := Aside0.mk (fun A c W (hW : Kd.C Kd.bool W A ws.length ws) (hc : ws.length ≤ c) => impl_votes_pivots.calls k n A c ws ps W hW hc hps)
    have HV := Aside0.mk (fun W (hW : Below w.heap.size w W) => impl_Committee_votes.calls a0_0 A0_1 c0_1 l0_1 _ _ W (Kd.C_below hr0_1 hW) hc0_1 hv)
    have HN := Aside0.mk (show n ≤ 1000 ∧ n ≤ ss.length ∧ n ≤ ps.length from ⟨by omega, by omega, by omega⟩)
    clear hv hss hps hr0_1 hres g0 g1 g2 g3
    go_enter Try.func21, Try.ntmps21
    go_wp2_with (first | (go_at_call 50; refine (HCom.out _ (by repeat (first | exact HB.out | apply below_alloc))).mono ?_; rintro e w1 ⟨rfl, hb1⟩; have B0 := Aside0.mk (blk_below (blk_new w _) hb1); have n0_ := Aside0.mk (below_then (below_alloc HB.out _) (by simp) hb1); clear HB hb1; have HB := n0_; clear n0_; have hlt0 := blk_lt B0.out; have hcz0 : w1.cell? ⟨w.heap.size, 0, none⟩ = some (.int .i64 a0_0) := (blk_cell B0.out 0).trans rfl; have hcz1 : w1.cell? ⟨w.heap.size, 1, none⟩ = some (.slice A0_1 l0_1.length c0_1) := (blk_cell B0.out 1).trans rfl; have hfz0 := blk_frozen B0.out 0; have hfz1 := blk_frozen B0.out 1) | (go_at_call 40; refine (HV.out _ HB.out).mono ?_; rintro e w2 ⟨v, rfl, HRw, hb2⟩; obtain ⟨Aw, cw, rfl⟩ := Kd.R_slice HRw; have n0_ := Aside0.mk (below_step HB.out hb2); clear HB hb2; have HB := n0_; clear n0_; have HW2 := Aside0.mk (Kd.R_reads' HRw).2.2; have HCw := Aside0.mk (Kd.R_reads' HRw).2.1; clear HRw))
    have hw3 : Below w2.heap.size w2 (w2.alloc (.cells #[.int .i64 (n : Int), .slice Aw ws.length cw] 58)) := below_alloc (Below.refl _ _) _
    have hv0 : (w2.alloc (.cells #[.int .i64 (n : Int), .slice Aw ws.length cw] 58)).cell? ⟨w2.heap.size, 0, none⟩ = some (.int .i64 (n : Int)) := (blk_cell (blk_new w2 _) 0).trans rfl
    have hv1 : (w2.alloc (.cells #[.int .i64 (n : Int), .slice Aw ws.length cw] 58)).cell? ⟨w2.heap.size, 1, none⟩ = some (.slice Aw ws.length cw) := (blk_cell (blk_new w2 _) 1).trans rfl
    have hgt3 : w2.heap.size < (w2.alloc (.cells #[.int .i64 (n : Int), .slice Aw ws.length cw] 58)).heap.size := by simp
    generalize w2.alloc (.cells #[.int .i64 (n : Int), .slice Aw ws.length cw] 58) = w3 at hw3 hv0 hv1 hgt3 ⊢
    have n0_ := Aside0.mk (below_step HB.out hw3)
    have n1_ := Aside0.mk (Kd.C_below HW2.out hw3)
    clear HB HW2 hw3 hcz0 hcz1 hfz0 hfz1 hlt0 B0
    have HB := n0_
    have HW2 := n1_
    clear n0_ n1_
    have X0 := Aside0.mk (below_drew1 (Below.refl w3.heap.size w3))
    refine start_ (n := 8) (S := fun w' => w'.cell? ⟨w2.heap.size, 0, none⟩ = some (.int .i64 (n : Int)) ∧ w'.cell? ⟨w2.heap.size, 1, none⟩ = some (.slice Aw ws.length cw)) (ds := [6, 7]) #[false, false, false, false, false, false, false, false] (by kernel_rfl) rfl rfl ⟨cell_later X0.out hv0, cell_later X0.out hv1⟩ (fun hHeld => ?_)
    refine take_ (i := 0) (N := some 15) (v := ?_) (a' := ?_) #[true, false, false, false, false, false, false, false] rfl rfl (by kernel_rfl) (fun _ _ _ h => h) (Or.inl ⟨by rfl, ?_⟩) hHeld ?_ ?_
    rotate_left
    · rintro w' ⟨s0, s1⟩
      go_simp
      with_reducible rfl
    rotate_left
    · simp only [Act.put, List.setIfInBounds_toArray, List.set_cons_zero, List.set_cons_succ, i64_w, i32_w]
      rfl
    refine take_ (i := 2) (N := some 17) (v := ?_) (a' := ?_) #[true, false, true, false, false, false, false, false] rfl rfl (by kernel_rfl) (fun _ _ _ h => h) (Or.inl ⟨by rfl, ?_⟩) hHeld ?_ ?_
    rotate_left
    · rintro w' ⟨s0, s1⟩
      go_simp
      with_reducible rfl
    rotate_left
    · simp only [Act.put, List.setIfInBounds_toArray, List.set_cons_zero, List.set_cons_succ, i64_w, i32_w]
      rfl
    refine join_ (σ := Nat × Nat × (Option Addr × Nat) × (Option Addr × Nat)) 2 #[true, true, true, true, true, true, false, false] (fun s_ => [(15, .agg #[.int .i64 (n : Int), .slice Aw ws.length cw]), (16, .slice s_.2.2.1.1 ss.length s_.2.2.1.2), (17, .agg #[.int .i64 (n : Int), .slice Aw ws.length cw]), (18, .slice s_.2.2.2.1 ps.length s_.2.2.2.2), (5, .pointer (some ⟨s_.1, 0, none⟩)), (6, .pointer (some ⟨s_.2.1, 0, none⟩))]) (fun s_ w' => (w'.cell? ⟨w2.heap.size, 0, none⟩ = some (.int .i64 (n : Int)) ∧ w'.cell? ⟨w2.heap.size, 1, none⟩ = some (.slice Aw ws.length cw)) ∧ Kd.R (Kd.int .i64) 3 w' w3.heap.size (fun _ => True) (.slice s_.2.2.1.1 ss.length s_.2.2.1.2) ss ∧ Kd.R (Kd.int .i64) 3 w' w3.heap.size (fun _ => True) (.slice s_.2.2.2.1 ps.length s_.2.2.2.2) ps ∧ w'.heap[s_.1]? = some (.cells #[.slice none 0 0] 22 (0, 0)) ∧ w'.heap[s_.2.1]? = some (.cells #[.slice none 0 0] 22 (0, 0)) ∧ w3.heap.size ≤ s_.1 ∧ w3.heap.size ≤ s_.2.1 ∧ s_.1 ≠ s_.2.1 ∧ Below w3.heap.size w3 w') ?_ ?_
    rotate_left
    · intro hCont
      refine three_ (i := 1) (j := 4) (k := 5) (Ni := some 16) (Nj := some 5) (Nk := some 6) #[true, true, true, false, false, false, false, false] #[true, false, true, false, true, false, false, false] #[true, false, true, false, false, true, false, false] rfl rfl rfl rfl rfl rfl (by kernel_rfl) (by decide) (by decide) (by decide) (fun K hK => ?_) (fun K hK => ?_) (fun K hK => ?_)
      · skip
        refine goes_ Try.func41 (by kernel_rfl) rfl #[.agg #[.int .i64 (n : Int), .slice Aw ws.length cw]] (by rfl) rfl rfl (by simp only [List.map_toArray, List.map_cons, List.map_nil]; rfl) ?_
        with_reducible refine (HSw.out Aw cw _ (Kd.C_below HW2.out X0.out) HCw.out).mono ?_
        rintro e w_1 ⟨vs, rfl, hRs, hb⟩
        obtain ⟨As, cs, rfl⟩ := Kd.R_slice hRs
        have hRs' := Aside0.mk (Kd.R_lower (base' := w3.heap.size) hRs X0.out.size)
        clear hRs
        have X1 := Aside0.mk (below_step X0.out hb)
        clear hb
        refine ⟨_, rfl, ?_⟩
        refine hK.out _ _ ⟨cell_later X1.out hv0, cell_later X1.out hv1⟩ (fun hHeld => ?_)
        clear hK K
        refine norm_ (a' := ?_) ?_ ?_
        rotate_left
        · show Act.put _ (some 16) _ = _
          simp only [Act.put, List.setIfInBounds_toArray, List.set_cons_zero, List.set_cons_succ, i64_w, i32_w]
          rfl
        refine three_ (i := 3) (j := 4) (k := 5) (Ni := some 18) (Nj := some 5) (Nk := some 6) #[true, true, true, true, false, false, false, false] #[true, true, true, false, true, false, false, false] #[true, true, true, false, false, true, false, false] rfl rfl rfl rfl rfl rfl (by kernel_rfl) (by decide) (by decide) (by decide) (fun K hK => ?_) (fun K hK => ?_) (fun K hK => ?_)
        · skip
          refine goes_ Try.func51 (by kernel_rfl) rfl #[.agg #[.int .i64 (n : Int), .slice Aw ws.length cw]] (by rfl) rfl rfl (by simp only [List.map_toArray, List.map_cons, List.map_nil]; rfl) ?_
          with_reducible refine (HPi.out Aw cw _ (Kd.C_below HW2.out X1.out) HCw.out).mono ?_
          rintro e w_2 ⟨vp, rfl, hRp, hb⟩
          obtain ⟨Ap, cp, rfl⟩ := Kd.R_slice hRp
          have hRp' := Aside0.mk (Kd.R_lower (base' := w3.heap.size) hRp X1.out.size)
          clear hRp
          have X2 := Aside0.mk (below_step X1.out hb)
          have n_ := Aside0.mk (Kd.R_below hRs'.out hb)
          clear hRs'
          have hRs' := n_
          clear n_
          clear hb
          refine ⟨_, rfl, ?_⟩
          refine hK.out _ _ ⟨cell_later X2.out hv0, cell_later X2.out hv1⟩ (fun hHeld => ?_)
          clear hK K
          refine norm_ (a' := ?_) ?_ ?_
          rotate_left
          · show Act.put _ (some 18) _ = _
            simp only [Act.put, List.setIfInBounds_toArray, List.set_cons_zero, List.set_cons_succ, i64_w, i32_w]
            rfl
          refine two_ (i := 4) (j := 5) (Ni := some 5) (Nj := some 6) #[true, true, true, true, true, false, false, false] #[true, true, true, true, false, true, false, false] rfl rfl rfl rfl (by kernel_rfl) (by decide) (by decide) (fun K hK => ?_) (fun K hK => ?_)
          · skip
            refine box_step ?hg (N := 5) ?hd (cs := #[.slice none 0 0]) (t := 22) ?hr ?_; (case hd => rfl); (case hg => rfl); (case hr => first | (go_simp; done) | (go_simp; rfl))
            intro gb5 hg w_3 hbox hb
            have gb5B := Aside0.mk hbox
            have gb5S := Aside0.mk (show w3.heap.size ≤ gb5 from by rw [hg]; exact X2.out.size)
            have gb5E := Aside0.mk hg
            clear hbox hg
            have X3 := Aside0.mk (below_step X2.out hb)
            have n_ := Aside0.mk (Kd.R_below hRs'.out hb)
            clear hRs'
            have hRs' := n_
            clear n_
            have n_ := Aside0.mk (Kd.R_below hRp'.out hb)
            clear hRp'
            have hRp' := n_
            clear n_
            clear hb
            refine hK.out _ _ ⟨cell_later X3.out hv0, cell_later X3.out hv1⟩ (fun hHeld => ?_)
            clear hK K
            refine norm_ (a' := ?_) ?_ ?_
            rotate_left
            · show Act.put _ (some 5) _ = _
              simp only [Act.put, List.setIfInBounds_toArray, List.set_cons_zero, List.set_cons_succ, i64_w, i32_w]
              rfl
            refine one_ (i := 5) (N := some 6) #[true, true, true, true, true, true, false, false] rfl rfl (by kernel_rfl) (by decide) (fun K hK => ?_)
            refine box_step ?hg (N := 6) ?hd (cs := #[.slice none 0 0]) (t := 22) ?hr ?_; (case hd => rfl); (case hg => rfl); (case hr => first | (go_simp; done) | (go_simp; rfl))
            intro gb6 hg w_4 hbox hb
            have gb6B := Aside0.mk hbox
            have gb6S := Aside0.mk (show w3.heap.size ≤ gb6 from by rw [hg]; exact X3.out.size)
            have gb6E := Aside0.mk hg
            clear hbox hg
            have hNE := Aside0.mk (show gb5 ≠ gb6 from by have h1 := blk_lt gb5B.out; have h2 := gb6E.out; omega)
            have X4 := Aside0.mk (below_step X3.out hb)
            have n_ := Aside0.mk (Kd.R_below hRs'.out hb)
            clear hRs'
            have hRs' := n_
            clear n_
            have n_ := Aside0.mk (Kd.R_below hRp'.out hb)
            clear hRp'
            have hRp' := n_
            clear n_
            have n_ := Aside0.mk (blk_below gb5B.out hb)
            clear gb5B
            have gb5B := n_
            clear n_
            clear hb
            refine hK.out _ _ ⟨cell_later X4.out hv0, cell_later X4.out hv1⟩ (fun hHeld => ?_)
            clear hK K
            refine norm_ (a' := ?_) ?_ ?_
            rotate_left
            · show Act.put _ (some 6) _ = _
              simp only [Act.put, List.setIfInBounds_toArray, List.set_cons_zero, List.set_cons_succ, i64_w, i32_w]
              rfl
            exact norm_ (by simp only [putAll, Act.put, List.setIfInBounds_toArray, List.set_cons_zero, List.set_cons_succ]) (hCont (gb5, gb6, (As, cs), (Ap, cp)) _ ⟨hHeld, hRs'.out, hRp'.out, gb5B.out, gb6B.out, gb5S.out, gb6S.out, hNE.out, X4.out⟩)
          · skip
            refine box_step ?hg (N := 6) ?hd (cs := #[.slice none 0 0]) (t := 22) ?hr ?_; (case hd => rfl); (case hg => rfl); (case hr => first | (go_simp; done) | (go_simp; rfl))
            intro gb6 hg w_3 hbox hb
            have gb6B := Aside0.mk hbox
            have gb6S := Aside0.mk (show w3.heap.size ≤ gb6 from by rw [hg]; exact X2.out.size)
            have gb6E := Aside0.mk hg
            clear hbox hg
            have X3 := Aside0.mk (below_step X2.out hb)
            have n_ := Aside0.mk (Kd.R_below hRs'.out hb)
            clear hRs'
            have hRs' := n_
            clear n_
            have n_ := Aside0.mk (Kd.R_below hRp'.out hb)
            clear hRp'
            have hRp' := n_
            clear n_
            clear hb
            refine hK.out _ _ ⟨cell_later X3.out hv0, cell_later X3.out hv1⟩ (fun hHeld => ?_)
            clear hK K
            refine norm_ (a' := ?_) ?_ ?_
            rotate_left
            · show Act.put _ (some 6) _ = _
              simp only [Act.put, List.setIfInBounds_toArray, List.set_cons_zero, List.set_cons_succ, i64_w, i32_w]
              rfl
            refine one_ (i := 4) (N := some 5) #[true, true, true, true, true, true, false, false] rfl rfl (by kernel_rfl) (by decide) (fun K hK => ?_)
            refine box_step ?hg (N := 5) ?hd (cs := #[.slice none 0 0]) (t := 22) ?hr ?_; (case hd => rfl); (case hg => rfl); (case hr => first | (go_simp; done) | (go_simp; rfl))
            intro gb5 hg w_4 hbox hb
            have gb5B := Aside0.mk hbox
            have gb5S := Aside0.mk (show w3.heap.size ≤ gb5 from by rw [hg]; exact X3.out.size)
            have gb5E := Aside0.mk hg
            clear hbox hg
            have hNE := Aside0.mk (show gb5 ≠ gb6 from by have h1 := blk_lt gb6B.out; have h2 := gb5E.out; omega)
            have X4 := Aside0.mk (below_step X3.out hb)
            have n_ := Aside0.mk (Kd.R_below hRs'.out hb)
            clear hRs'
            have hRs' := n_
            clear n_
            have n_ := Aside0.mk (Kd.R_below hRp'.out hb)
            clear hRp'
            have hRp' := n_
            clear n_
            have n_ := Aside0.mk (blk_below gb6B.out hb)
            clear gb6B
            have gb6B := n_
            clear n_
            clear hb
            refine hK.out _ _ ⟨cell_later X4.out hv0, cell_later X4.out hv1⟩ (fun hHeld => ?_)
            clear hK K
            refine norm_ (a' := ?_) ?_ ?_
            rotate_left
            · show Act.put _ (some 5) _ = _
              simp only [Act.put, List.setIfInBounds_toArray, List.set_cons_zero, List.set_cons_succ, i64_w, i32_w]
              rfl
            exact norm_ (by simp only [putAll, Act.put, List.setIfInBounds_toArray, List.set_cons_zero, List.set_cons_succ]) (hCont (gb5, gb6, (As, cs), (Ap, cp)) _ ⟨hHeld, hRs'.out, hRp'.out, gb5B.out, gb6B.out, gb5S.out, gb6S.out, hNE.out, X4.out⟩)
        · skip
          refine box_step ?hg (N := 5) ?hd (cs := #[.slice none 0 0]) (t := 22) ?hr ?_; (case hd => rfl); (case hg => rfl); (case hr => first | (go_simp; done) | (go_simp; rfl))
          intro gb5 hg w_2 hbox hb
          have gb5B := Aside0.mk hbox
          have gb5S := Aside0.mk (show w3.heap.size ≤ gb5 from by rw [hg]; exact X1.out.size)
          have gb5E := Aside0.mk hg
          clear hbox hg
          have X2 := Aside0.mk (below_step X1.out hb)
          have n_ := Aside0.mk (Kd.R_below hRs'.out hb)
          clear hRs'
          have hRs' := n_
          clear n_
          clear hb
          refine hK.out _ _ ⟨cell_later X2.out hv0, cell_later X2.out hv1⟩ (fun hHeld => ?_)
          clear hK K
          refine norm_ (a' := ?_) ?_ ?_
          rotate_left
          · show Act.put _ (some 5) _ = _
            simp only [Act.put, List.setIfInBounds_toArray, List.set_cons_zero, List.set_cons_succ, i64_w, i32_w]
            rfl
          refine two_ (i := 3) (j := 5) (Ni := some 18) (Nj := some 6) #[true, true, true, true, true, false, false, false] #[true, true, true, false, true, true, false, false] rfl rfl rfl rfl (by kernel_rfl) (by decide) (by decide) (fun K hK => ?_) (fun K hK => ?_)
          · skip
            refine goes_ Try.func51 (by kernel_rfl) rfl #[.agg #[.int .i64 (n : Int), .slice Aw ws.length cw]] (by rfl) rfl rfl (by simp only [List.map_toArray, List.map_cons, List.map_nil]; rfl) ?_
            with_reducible refine (HPi.out Aw cw _ (Kd.C_below HW2.out X2.out) HCw.out).mono ?_
            rintro e w_3 ⟨vp, rfl, hRp, hb⟩
            obtain ⟨Ap, cp, rfl⟩ := Kd.R_slice hRp
            have hRp' := Aside0.mk (Kd.R_lower (base' := w3.heap.size) hRp X2.out.size)
            clear hRp
            have X3 := Aside0.mk (below_step X2.out hb)
            have n_ := Aside0.mk (Kd.R_below hRs'.out hb)
            clear hRs'
            have hRs' := n_
            clear n_
            have n_ := Aside0.mk (blk_below gb5B.out hb)
            clear gb5B
            have gb5B := n_
            clear n_
            clear hb
            refine ⟨_, rfl, ?_⟩
            refine hK.out _ _ ⟨cell_later X3.out hv0, cell_later X3.out hv1⟩ (fun hHeld => ?_)
            clear hK K
            refine norm_ (a' := ?_) ?_ ?_
            rotate_left
            · show Act.put _ (some 18) _ = _
              simp only [Act.put, List.setIfInBounds_toArray, List.set_cons_zero, List.set_cons_succ, i64_w, i32_w]
              rfl
            refine one_ (i := 5) (N := some 6) #[true, true, true, true, true, true, false, false] rfl rfl (by kernel_rfl) (by decide) (fun K hK => ?_)
            refine box_step ?hg (N := 6) ?hd (cs := #[.slice none 0 0]) (t := 22) ?hr ?_; (case hd => rfl); (case hg => rfl); (case hr => first | (go_simp; done) | (go_simp; rfl))
            intro gb6 hg w_4 hbox hb
            have gb6B := Aside0.mk hbox
            have gb6S := Aside0.mk (show w3.heap.size ≤ gb6 from by rw [hg]; exact X3.out.size)
            have gb6E := Aside0.mk hg
            clear hbox hg
            have hNE := Aside0.mk (show gb5 ≠ gb6 from by have h1 := blk_lt gb5B.out; have h2 := gb6E.out; omega)
            have X4 := Aside0.mk (below_step X3.out hb)
            have n_ := Aside0.mk (Kd.R_below hRs'.out hb)
            clear hRs'
            have hRs' := n_
            clear n_
            have n_ := Aside0.mk (blk_below gb5B.out hb)
            clear gb5B
            have gb5B := n_
            clear n_
            have n_ := Aside0.mk (Kd.R_below hRp'.out hb)
            clear hRp'
            have hRp' := n_
            clear n_
            clear hb
            refine hK.out _ _ ⟨cell_later X4.out hv0, cell_later X4.out hv1⟩ (fun hHeld => ?_)
            clear hK K
            refine norm_ (a' := ?_) ?_ ?_
            rotate_left
            · show Act.put _ (some 6) _ = _
              simp only [Act.put, List.setIfInBounds_toArray, List.set_cons_zero, List.set_cons_succ, i64_w, i32_w]
              rfl
            exact norm_ (by simp only [putAll, Act.put, List.setIfInBounds_toArray, List.set_cons_zero, List.set_cons_succ]) (hCont (gb5, gb6, (As, cs), (Ap, cp)) _ ⟨hHeld, hRs'.out, hRp'.out, gb5B.out, gb6B.out, gb5S.out, gb6S.out, hNE.out, X4.out⟩)
          · skip
            refine box_step ?hg (N := 6) ?hd (cs := #[.slice none 0 0]) (t := 22) ?hr ?_; (case hd => rfl); (case hg => rfl); (case hr => first | (go_simp; done) | (go_simp; rfl))
            intro gb6 hg w_3 hbox hb
            have gb6B := Aside0.mk hbox
            have gb6S := Aside0.mk (show w3.heap.size ≤ gb6 from by rw [hg]; exact X2.out.size)
            have gb6E := Aside0.mk hg
            clear hbox hg
            have hNE := Aside0.mk (show gb5 ≠ gb6 from by have h1 := blk_lt gb5B.out; have h2 := gb6E.out; omega)
            have X3 := Aside0.mk (below_step X2.out hb)
            have n_ := Aside0.mk (Kd.R_below hRs'.out hb)
            clear hRs'
            have hRs' := n_
            clear n_
            have n_ := Aside0.mk (blk_below gb5B.out hb)
            clear gb5B
            have gb5B := n_
            clear n_
            clear hb
            refine hK.out _ _ ⟨cell_later X3.out hv0, cell_later X3.out hv1⟩ (fun hHeld => ?_)
            clear hK K
            refine norm_ (a' := ?_) ?_ ?_
            rotate_left
            · show Act.put _ (some 6) _ = _
              simp only [Act.put, List.setIfInBounds_toArray, List.set_cons_zero, List.set_cons_succ, i64_w, i32_w]
              rfl
            refine one_ (i := 3) (N := some 18) #[true, true, true, true, true, true, false, false] rfl rfl (by kernel_rfl) (by decide) (fun K hK => ?_)
            refine goes_ Try.func51 (by kernel_rfl) rfl #[.agg #[.int .i64 (n : Int), .slice Aw ws.length cw]] (by rfl) rfl rfl (by simp only [List.map_toArray, List.map_cons, List.map_nil]; rfl) ?_
            with_reducible refine (HPi.out Aw cw _ (Kd.C_below HW2.out X3.out) HCw.out).mono ?_
            rintro e w_4 ⟨vp, rfl, hRp, hb⟩
            obtain ⟨Ap, cp, rfl⟩ := Kd.R_slice hRp
            have hRp' := Aside0.mk (Kd.R_lower (base' := w3.heap.size) hRp X3.out.size)
            clear hRp
            have X4 := Aside0.mk (below_step X3.out hb)
            have n_ := Aside0.mk (Kd.R_below hRs'.out hb)
            clear hRs'
            have hRs' := n_
            clear n_
            have n_ := Aside0.mk (blk_below gb5B.out hb)
            clear gb5B
            have gb5B := n_
            clear n_
            have n_ := Aside0.mk (blk_below gb6B.out hb)
            clear gb6B
            have gb6B := n_
            clear n_
            clear hb
            refine ⟨_, rfl, ?_⟩
            refine hK.out _ _ ⟨cell_later X4.out hv0, cell_later X4.out hv1⟩ (fun hHeld => ?_)
            clear hK K
            refine norm_ (a' := ?_) ?_ ?_
            rotate_left
            · show Act.put _ (some 18) _ = _
              simp only [Act.put, List.setIfInBounds_toArray, List.set_cons_zero, List.set_cons_succ, i64_w, i32_w]
              rfl
            exact norm_ (by simp only [putAll, Act.put, List.setIfInBounds_toArray, List.set_cons_zero, List.set_cons_succ]) (hCont (gb5, gb6, (As, cs), (Ap, cp)) _ ⟨hHeld, hRs'.out, hRp'.out, gb5B.out, gb6B.out, gb5S.out, gb6S.out, hNE.out, X4.out⟩)
        · skip
          refine box_step ?hg (N := 6) ?hd (cs := #[.slice none 0 0]) (t := 22) ?hr ?_; (case hd => rfl); (case hg => rfl); (case hr => first | (go_simp; done) | (go_simp; rfl))
          intro gb6 hg w_2 hbox hb
          have gb6B := Aside0.mk hbox
          have gb6S := Aside0.mk (show w3.heap.size ≤ gb6 from by rw [hg]; exact X1.out.size)
          have gb6E := Aside0.mk hg
          clear hbox hg
          have X2 := Aside0.mk (below_step X1.out hb)
          have n_ := Aside0.mk (Kd.R_below hRs'.out hb)
          clear hRs'
          have hRs' := n_
          clear n_
          clear hb
          refine hK.out _ _ ⟨cell_later X2.out hv0, cell_later X2.out hv1⟩ (fun hHeld => ?_)
          clear hK K
          refine norm_ (a' := ?_) ?_ ?_
          rotate_left
          · show Act.put _ (some 6) _ = _
            simp only [Act.put, List.setIfInBounds_toArray, List.set_cons_zero, List.set_cons_succ, i64_w, i32_w]
            rfl
          refine two_ (i := 3) (j := 4) (Ni := some 18) (Nj := some 5) #[true, true, true, true, false, true, false, false] #[true, true, true, false, true, true, false, false] rfl rfl rfl rfl (by kernel_rfl) (by decide) (by decide) (fun K hK => ?_) (fun K hK => ?_)
          · skip
            refine goes_ Try.func51 (by kernel_rfl) rfl #[.agg #[.int .i64 (n : Int), .slice Aw ws.length cw]] (by rfl) rfl rfl (by simp only [List.map_toArray, List.map_cons, List.map_nil]; rfl) ?_
            with_reducible refine (HPi.out Aw cw _ (Kd.C_below HW2.out X2.out) HCw.out).mono ?_
            rintro e w_3 ⟨vp, rfl, hRp, hb⟩
            obtain ⟨Ap, cp, rfl⟩ := Kd.R_slice hRp
            have hRp' := Aside0.mk (Kd.R_lower (base' := w3.heap.size) hRp X2.out.size)
            clear hRp
            have X3 := Aside0.mk (below_step X2.out hb)
            have n_ := Aside0.mk (Kd.R_below hRs'.out hb)
            clear hRs'
            have hRs' := n_
            clear n_
            have n_ := Aside0.mk (blk_below gb6B.out hb)
            clear gb6B
            have gb6B := n_
            clear n_
            clear hb
            refine ⟨_, rfl, ?_⟩
            refine hK.out _ _ ⟨cell_later X3.out hv0, cell_later X3.out hv1⟩ (fun hHeld => ?_)
            clear hK K
            refine norm_ (a' := ?_) ?_ ?_
            rotate_left
            · show Act.put _ (some 18) _ = _
              simp only [Act.put, List.setIfInBounds_toArray, List.set_cons_zero, List.set_cons_succ, i64_w, i32_w]
              rfl
            refine one_ (i := 4) (N := some 5) #[true, true, true, true, true, true, false, false] rfl rfl (by kernel_rfl) (by decide) (fun K hK => ?_)
            refine box_step ?hg (N := 5) ?hd (cs := #[.slice none 0 0]) (t := 22) ?hr ?_; (case hd => rfl); (case hg => rfl); (case hr => first | (go_simp; done) | (go_simp; rfl))
            intro gb5 hg w_4 hbox hb
            have gb5B := Aside0.mk hbox
            have gb5S := Aside0.mk (show w3.heap.size ≤ gb5 from by rw [hg]; exact X3.out.size)
            have gb5E := Aside0.mk hg
            clear hbox hg
            have hNE := Aside0.mk (show gb5 ≠ gb6 from by have h1 := blk_lt gb6B.out; have h2 := gb5E.out; omega)
            have X4 := Aside0.mk (below_step X3.out hb)
            have n_ := Aside0.mk (Kd.R_below hRs'.out hb)
            clear hRs'
            have hRs' := n_
            clear n_
            have n_ := Aside0.mk (blk_below gb6B.out hb)
            clear gb6B
            have gb6B := n_
            clear n_
            have n_ := Aside0.mk (Kd.R_below hRp'.out hb)
            clear hRp'
            have hRp' := n_
            clear n_
            clear hb
            refine hK.out _ _ ⟨cell_later X4.out hv0, cell_later X4.out hv1⟩ (fun hHeld => ?_)
            clear hK K
            refine norm_ (a' := ?_) ?_ ?_
            rotate_left
            · show Act.put _ (some 5) _ = _
              simp only [Act.put, List.setIfInBounds_toArray, List.set_cons_zero, List.set_cons_succ, i64_w, i32_w]
              rfl
            exact norm_ (by simp only [putAll, Act.put, List.setIfInBounds_toArray, List.set_cons_zero, List.set_cons_succ]) (hCont (gb5, gb6, (As, cs), (Ap, cp)) _ ⟨hHeld, hRs'.out, hRp'.out, gb5B.out, gb6B.out, gb5S.out, gb6S.out, hNE.out, X4.out⟩)
          · skip
            refine box_step ?hg (N := 5) ?hd (cs := #[.slice none 0 0]) (t := 22) ?hr ?_; (case hd => rfl); (case hg => rfl); (case hr => first | (go_simp; done) | (go_simp; rfl))
            intro gb5 hg w_3 hbox hb
            have gb5B := Aside0.mk hbox
            have gb5S := Aside0.mk (show w3.heap.size ≤ gb5 from by rw [hg]; exact X2.out.size)
            have gb5E := Aside0.mk hg
            clear hbox hg
            have hNE := Aside0.mk (show gb5 ≠ gb6 from by have h1 := blk_lt gb6B.out; have h2 := gb5E.out; omega)
            have X3 := Aside0.mk (below_step X2.out hb)
            have n_ := Aside0.mk (Kd.R_below hRs'.out hb)
            clear hRs'
            have hRs' := n_
            clear n_
            have n_ := Aside0.mk (blk_below gb6B.out hb)
            clear gb6B
            have gb6B := n_
            clear n_
            clear hb
            refine hK.out _ _ ⟨cell_later X3.out hv0, cell_later X3.out hv1⟩ (fun hHeld => ?_)
            clear hK K
            refine norm_ (a' := ?_) ?_ ?_
            rotate_left
            · show Act.put _ (some 5) _ = _
              simp only [Act.put, List.setIfInBounds_toArray, List.set_cons_zero, List.set_cons_succ, i64_w, i32_w]
              rfl
            refine one_ (i := 3) (N := some 18) #[true, true, true, true, true, true, false, false] rfl rfl (by kernel_rfl) (by decide) (fun K hK => ?_)
            refine goes_ Try.func51 (by kernel_rfl) rfl #[.agg #[.int .i64 (n : Int), .slice Aw ws.length cw]] (by rfl) rfl rfl (by simp only [List.map_toArray, List.map_cons, List.map_nil]; rfl) ?_
            with_reducible refine (HPi.out Aw cw _ (Kd.C_below HW2.out X3.out) HCw.out).mono ?_
            rintro e w_4 ⟨vp, rfl, hRp, hb⟩
            obtain ⟨Ap, cp, rfl⟩ := Kd.R_slice hRp
            have hRp' := Aside0.mk (Kd.R_lower (base' := w3.heap.size) hRp X3.out.size)
            clear hRp
            have X4 := Aside0.mk (below_step X3.out hb)
            have n_ := Aside0.mk (Kd.R_below hRs'.out hb)
            clear hRs'
            have hRs' := n_
            clear n_
            have n_ := Aside0.mk (blk_below gb6B.out hb)
            clear gb6B
            have gb6B := n_
            clear n_
            have n_ := Aside0.mk (blk_below gb5B.out hb)
            clear gb5B
            have gb5B := n_
            clear n_
            clear hb
            refine ⟨_, rfl, ?_⟩
            refine hK.out _ _ ⟨cell_later X4.out hv0, cell_later X4.out hv1⟩ (fun hHeld => ?_)
            clear hK K
            refine norm_ (a' := ?_) ?_ ?_
            rotate_left
            · show Act.put _ (some 18) _ = _
              simp only [Act.put, List.setIfInBounds_toArray, List.set_cons_zero, List.set_cons_succ, i64_w, i32_w]
              rfl
            exact norm_ (by simp only [putAll, Act.put, List.setIfInBounds_toArray, List.set_cons_zero, List.set_cons_succ]) (hCont (gb5, gb6, (As, cs), (Ap, cp)) _ ⟨hHeld, hRs'.out, hRp'.out, gb5B.out, gb6B.out, gb5S.out, gb6S.out, hNE.out, X4.out⟩)
      · skip
        refine box_step ?hg (N := 5) ?hd (cs := #[.slice none 0 0]) (t := 22) ?hr ?_; (case hd => rfl); (case hg => rfl); (case hr => first | (go_simp; done) | (go_simp; rfl))
        intro gb5 hg w_1 hbox hb
        have gb5B := Aside0.mk hbox
        have gb5S := Aside0.mk (show w3.heap.size ≤ gb5 from by rw [hg]; exact X0.out.size)
        have gb5E := Aside0.mk hg
        clear hbox hg
        have X1 := Aside0.mk (below_step X0.out hb)
        clear hb
        refine hK.out _ _ ⟨cell_later X1.out hv0, cell_later X1.out hv1⟩ (fun hHeld => ?_)
        clear hK K
        refine norm_ (a' := ?_) ?_ ?_
        rotate_left
        · show Act.put _ (some 5) _ = _
          simp only [Act.put, List.setIfInBounds_toArray, List.set_cons_zero, List.set_cons_succ, i64_w, i32_w]
          rfl
        refine two_ (i := 1) (j := 5) (Ni := some 16) (Nj := some 6) #[true, true, true, false, true, false, false, false] #[true, false, true, false, true, true, false, false] rfl rfl rfl rfl (by kernel_rfl) (by decide) (by decide) (fun K hK => ?_) (fun K hK => ?_)
        · skip
          refine goes_ Try.func41 (by kernel_rfl) rfl #[.agg #[.int .i64 (n : Int), .slice Aw ws.length cw]] (by rfl) rfl rfl (by simp only [List.map_toArray, List.map_cons, List.map_nil]; rfl) ?_
          with_reducible refine (HSw.out Aw cw _ (Kd.C_below HW2.out X1.out) HCw.out).mono ?_
          rintro e w_2 ⟨vs, rfl, hRs, hb⟩
          obtain ⟨As, cs, rfl⟩ := Kd.R_slice hRs
          have hRs' := Aside0.mk (Kd.R_lower (base' := w3.heap.size) hRs X1.out.size)
          clear hRs
          have X2 := Aside0.mk (below_step X1.out hb)
          have n_ := Aside0.mk (blk_below gb5B.out hb)
          clear gb5B
          have gb5B := n_
          clear n_
          clear hb
          refine ⟨_, rfl, ?_⟩
          refine hK.out _ _ ⟨cell_later X2.out hv0, cell_later X2.out hv1⟩ (fun hHeld => ?_)
          clear hK K
          refine norm_ (a' := ?_) ?_ ?_
          rotate_left
          · show Act.put _ (some 16) _ = _
            simp only [Act.put, List.setIfInBounds_toArray, List.set_cons_zero, List.set_cons_succ, i64_w, i32_w]
            rfl
          refine two_ (i := 3) (j := 5) (Ni := some 18) (Nj := some 6) #[true, true, true, true, true, false, false, false] #[true, true, true, false, true, true, false, false] rfl rfl rfl rfl (by kernel_rfl) (by decide) (by decide) (fun K hK => ?_) (fun K hK => ?_)
          · skip
            refine goes_ Try.func51 (by kernel_rfl) rfl #[.agg #[.int .i64 (n : Int), .slice Aw ws.length cw]] (by rfl) rfl rfl (by simp only [List.map_toArray, List.map_cons, List.map_nil]; rfl) ?_
            with_reducible refine (HPi.out Aw cw _ (Kd.C_below HW2.out X2.out) HCw.out).mono ?_
            rintro e w_3 ⟨vp, rfl, hRp, hb⟩
            obtain ⟨Ap, cp, rfl⟩ := Kd.R_slice hRp
            have hRp' := Aside0.mk (Kd.R_lower (base' := w3.heap.size) hRp X2.out.size)
            clear hRp
            have X3 := Aside0.mk (below_step X2.out hb)
            have n_ := Aside0.mk (blk_below gb5B.out hb)
            clear gb5B
            have gb5B := n_
            clear n_
            have n_ := Aside0.mk (Kd.R_below hRs'.out hb)
            clear hRs'
            have hRs' := n_
            clear n_
            clear hb
            refine ⟨_, rfl, ?_⟩
            refine hK.out _ _ ⟨cell_later X3.out hv0, cell_later X3.out hv1⟩ (fun hHeld => ?_)
            clear hK K
            refine norm_ (a' := ?_) ?_ ?_
            rotate_left
            · show Act.put _ (some 18) _ = _
              simp only [Act.put, List.setIfInBounds_toArray, List.set_cons_zero, List.set_cons_succ, i64_w, i32_w]
              rfl
            refine one_ (i := 5) (N := some 6) #[true, true, true, true, true, true, false, false] rfl rfl (by kernel_rfl) (by decide) (fun K hK => ?_)
            refine box_step ?hg (N := 6) ?hd (cs := #[.slice none 0 0]) (t := 22) ?hr ?_; (case hd => rfl); (case hg => rfl); (case hr => first | (go_simp; done) | (go_simp; rfl))
            intro gb6 hg w_4 hbox hb
            have gb6B := Aside0.mk hbox
            have gb6S := Aside0.mk (show w3.heap.size ≤ gb6 from by rw [hg]; exact X3.out.size)
            have gb6E := Aside0.mk hg
            clear hbox hg
            have hNE := Aside0.mk (show gb5 ≠ gb6 from by have h1 := blk_lt gb5B.out; have h2 := gb6E.out; omega)
            have X4 := Aside0.mk (below_step X3.out hb)
            have n_ := Aside0.mk (blk_below gb5B.out hb)
            clear gb5B
            have gb5B := n_
            clear n_
            have n_ := Aside0.mk (Kd.R_below hRs'.out hb)
            clear hRs'
            have hRs' := n_
            clear n_
            have n_ := Aside0.mk (Kd.R_below hRp'.out hb)
            clear hRp'
            have hRp' := n_
            clear n_
            clear hb
            refine hK.out _ _ ⟨cell_later X4.out hv0, cell_later X4.out hv1⟩ (fun hHeld => ?_)
            clear hK K
            refine norm_ (a' := ?_) ?_ ?_
            rotate_left
            · show Act.put _ (some 6) _ = _
              simp only [Act.put, List.setIfInBounds_toArray, List.set_cons_zero, List.set_cons_succ, i64_w, i32_w]
              rfl
            exact norm_ (by simp only [putAll, Act.put, List.setIfInBounds_toArray, List.set_cons_zero, List.set_cons_succ]) (hCont (gb5, gb6, (As, cs), (Ap, cp)) _ ⟨hHeld, hRs'.out, hRp'.out, gb5B.out, gb6B.out, gb5S.out, gb6S.out, hNE.out, X4.out⟩)
          · skip
            refine box_step ?hg (N := 6) ?hd (cs := #[.slice none 0 0]) (t := 22) ?hr ?_; (case hd => rfl); (case hg => rfl); (case hr => first | (go_simp; done) | (go_simp; rfl))
            intro gb6 hg w_3 hbox hb
            have gb6B := Aside0.mk hbox
            have gb6S := Aside0.mk (show w3.heap.size ≤ gb6 from by rw [hg]; exact X2.out.size)
            have gb6E := Aside0.mk hg
            clear hbox hg
            have hNE := Aside0.mk (show gb5 ≠ gb6 from by have h1 := blk_lt gb5B.out; have h2 := gb6E.out; omega)
            have X3 := Aside0.mk (below_step X2.out hb)
            have n_ := Aside0.mk (blk_below gb5B.out hb)
            clear gb5B
            have gb5B := n_
            clear n_
            have n_ := Aside0.mk (Kd.R_below hRs'.out hb)
            clear hRs'
            have hRs' := n_
            clear n_
            clear hb
            refine hK.out _ _ ⟨cell_later X3.out hv0, cell_later X3.out hv1⟩ (fun hHeld => ?_)
            clear hK K
            refine norm_ (a' := ?_) ?_ ?_
            rotate_left
            · show Act.put _ (some 6) _ = _
              simp only [Act.put, List.setIfInBounds_toArray, List.set_cons_zero, List.set_cons_succ, i64_w, i32_w]
              rfl
            refine one_ (i := 3) (N := some 18) #[true, true, true, true, true, true, false, false] rfl rfl (by kernel_rfl) (by decide) (fun K hK => ?_)
            refine goes_ Try.func51 (by kernel_rfl) rfl #[.agg #[.int .i64 (n : Int), .slice Aw ws.length cw]] (by rfl) rfl rfl (by simp only [List.map_toArray, List.map_cons, List.map_nil]; rfl) ?_
            with_reducible refine (HPi.out Aw cw _ (Kd.C_below HW2.out X3.out) HCw.out).mono ?_
            rintro e w_4 ⟨vp, rfl, hRp, hb⟩
            obtain ⟨Ap, cp, rfl⟩ := Kd.R_slice hRp
            have hRp' := Aside0.mk (Kd.R_lower (base' := w3.heap.size) hRp X3.out.size)
            clear hRp
            have X4 := Aside0.mk (below_step X3.out hb)
            have n_ := Aside0.mk (blk_below gb5B.out hb)
            clear gb5B
            have gb5B := n_
            clear n_
            have n_ := Aside0.mk (Kd.R_below hRs'.out hb)
            clear hRs'
            have hRs' := n_
            clear n_
            have n_ := Aside0.mk (blk_below gb6B.out hb)
            clear gb6B
            have gb6B := n_
            clear n_
            clear hb
            refine ⟨_, rfl, ?_⟩
            refine hK.out _ _ ⟨cell_later X4.out hv0, cell_later X4.out hv1⟩ (fun hHeld => ?_)
            clear hK K
            refine norm_ (a' := ?_) ?_ ?_
            rotate_left
            · show Act.put _ (some 18) _ = _
              simp only [Act.put, List.setIfInBounds_toArray, List.set_cons_zero, List.set_cons_succ, i64_w, i32_w]
              rfl
            exact norm_ (by simp only [putAll, Act.put, List.setIfInBounds_toArray, List.set_cons_zero, List.set_cons_succ]) (hCont (gb5, gb6, (As, cs), (Ap, cp)) _ ⟨hHeld, hRs'.out, hRp'.out, gb5B.out, gb6B.out, gb5S.out, gb6S.out, hNE.out, X4.out⟩)
        · skip
          refine box_step ?hg (N := 6) ?hd (cs := #[.slice none 0 0]) (t := 22) ?hr ?_; (case hd => rfl); (case hg => rfl); (case hr => first | (go_simp; done) | (go_simp; rfl))
          intro gb6 hg w_2 hbox hb
          have gb6B := Aside0.mk hbox
          have gb6S := Aside0.mk (show w3.heap.size ≤ gb6 from by rw [hg]; exact X1.out.size)
          have gb6E := Aside0.mk hg
          clear hbox hg
          have hNE := Aside0.mk (show gb5 ≠ gb6 from by have h1 := blk_lt gb5B.out; have h2 := gb6E.out; omega)
          have X2 := Aside0.mk (below_step X1.out hb)
          have n_ := Aside0.mk (blk_below gb5B.out hb)
          clear gb5B
          have gb5B := n_
          clear n_
          clear hb
          refine hK.out _ _ ⟨cell_later X2.out hv0, cell_later X2.out hv1⟩ (fun hHeld => ?_)
          clear hK K
          refine norm_ (a' := ?_) ?_ ?_
          rotate_left
          · show Act.put _ (some 6) _ = _
            simp only [Act.put, List.setIfInBounds_toArray, List.set_cons_zero, List.set_cons_succ, i64_w, i32_w]
            rfl
          refine one_ (i := 1) (N := some 16) #[true, true, true, false, true, true, false, false] rfl rfl (by kernel_rfl) (by decide) (fun K hK => ?_)
          refine goes_ Try.func41 (by kernel_rfl) rfl #[.agg #[.int .i64 (n : Int), .slice Aw ws.length cw]] (by rfl) rfl rfl (by simp only [List.map_toArray, List.map_cons, List.map_nil]; rfl) ?_
          with_reducible refine (HSw.out Aw cw _ (Kd.C_below HW2.out X2.out) HCw.out).mono ?_
          rintro e w_3 ⟨vs, rfl, hRs, hb⟩
          obtain ⟨As, cs, rfl⟩ := Kd.R_slice hRs
          have hRs' := Aside0.mk (Kd.R_lower (base' := w3.heap.size) hRs X2.out.size)
          clear hRs
          have X3 := Aside0.mk (below_step X2.out hb)
          have n_ := Aside0.mk (blk_below gb5B.out hb)
          clear gb5B
          have gb5B := n_
          clear n_
          have n_ := Aside0.mk (blk_below gb6B.out hb)
          clear gb6B
          have gb6B := n_
          clear n_
          clear hb
          refine ⟨_, rfl, ?_⟩
          refine hK.out _ _ ⟨cell_later X3.out hv0, cell_later X3.out hv1⟩ (fun hHeld => ?_)
          clear hK K
          refine norm_ (a' := ?_) ?_ ?_
          rotate_left
          · show Act.put _ (some 16) _ = _
            simp only [Act.put, List.setIfInBounds_toArray, List.set_cons_zero, List.set_cons_succ, i64_w, i32_w]
            rfl
          refine one_ (i := 3) (N := some 18) #[true, true, true, true, true, true, false, false] rfl rfl (by kernel_rfl) (by decide) (fun K hK => ?_)
          refine goes_ Try.func51 (by kernel_rfl) rfl #[.agg #[.int .i64 (n : Int), .slice Aw ws.length cw]] (by rfl) rfl rfl (by simp only [List.map_toArray, List.map_cons, List.map_nil]; rfl) ?_
          with_reducible refine (HPi.out Aw cw _ (Kd.C_below HW2.out X3.out) HCw.out).mono ?_
          rintro e w_4 ⟨vp, rfl, hRp, hb⟩
          obtain ⟨Ap, cp, rfl⟩ := Kd.R_slice hRp
          have hRp' := Aside0.mk (Kd.R_lower (base' := w3.heap.size) hRp X3.out.size)
          clear hRp
          have X4 := Aside0.mk (below_step X3.out hb)
          have n_ := Aside0.mk (blk_below gb5B.out hb)
          clear gb5B
          have gb5B := n_
          clear n_
          have n_ := Aside0.mk (blk_below gb6B.out hb)
          clear gb6B
          have gb6B := n_
          clear n_
          have n_ := Aside0.mk (Kd.R_below hRs'.out hb)
          clear hRs'
          have hRs' := n_
          clear n_
          clear hb
          refine ⟨_, rfl, ?_⟩
          refine hK.out _ _ ⟨cell_later X4.out hv0, cell_later X4.out hv1⟩ (fun hHeld => ?_)
          clear hK K
          refine norm_ (a' := ?_) ?_ ?_
          rotate_left
          · show Act.put _ (some 18) _ = _
            simp only [Act.put, List.setIfInBounds_toArray, List.set_cons_zero, List.set_cons_succ, i64_w, i32_w]
            rfl
          exact norm_ (by simp only [putAll, Act.put, List.setIfInBounds_toArray, List.set_cons_zero, List.set_cons_succ]) (hCont (gb5, gb6, (As, cs), (Ap, cp)) _ ⟨hHeld, hRs'.out, hRp'.out, gb5B.out, gb6B.out, gb5S.out, gb6S.out, hNE.out, X4.out⟩)
      · skip
        refine box_step ?hg (N := 6) ?hd (cs := #[.slice none 0 0]) (t := 22) ?hr ?_; (case hd => rfl); (case hg => rfl); (case hr => first | (go_simp; done) | (go_simp; rfl))
        intro gb6 hg w_1 hbox hb
        have gb6B := Aside0.mk hbox
        have gb6S := Aside0.mk (show w3.heap.size ≤ gb6 from by rw [hg]; exact X0.out.size)
        have gb6E := Aside0.mk hg
        clear hbox hg
        have X1 := Aside0.mk (below_step X0.out hb)
        clear hb
        refine hK.out _ _ ⟨cell_later X1.out hv0, cell_later X1.out hv1⟩ (fun hHeld => ?_)
        clear hK K
        refine norm_ (a' := ?_) ?_ ?_
        rotate_left
        · show Act.put _ (some 6) _ = _
          simp only [Act.put, List.setIfInBounds_toArray, List.set_cons_zero, List.set_cons_succ, i64_w, i32_w]
          rfl
        refine two_ (i := 1) (j := 4) (Ni := some 16) (Nj := some 5) #[true, true, true, false, false, true, false, false] #[true, false, true, false, true, true, false, false] rfl rfl rfl rfl (by kernel_rfl) (by decide) (by decide) (fun K hK => ?_) (fun K hK => ?_)
        · skip
          refine goes_ Try.func41 (by kernel_rfl) rfl #[.agg #[.int .i64 (n : Int), .slice Aw ws.length cw]] (by rfl) rfl rfl (by simp only [List.map_toArray, List.map_cons, List.map_nil]; rfl) ?_
          with_reducible refine (HSw.out Aw cw _ (Kd.C_below HW2.out X1.out) HCw.out).mono ?_
          rintro e w_2 ⟨vs, rfl, hRs, hb⟩
          obtain ⟨As, cs, rfl⟩ := Kd.R_slice hRs
          have hRs' := Aside0.mk (Kd.R_lower (base' := w3.heap.size) hRs X1.out.size)
          clear hRs
          have X2 := Aside0.mk (below_step X1.out hb)
          have n_ := Aside0.mk (blk_below gb6B.out hb)
          clear gb6B
          have gb6B := n_
          clear n_
          clear hb
          refine ⟨_, rfl, ?_⟩
          refine hK.out _ _ ⟨cell_later X2.out hv0, cell_later X2.out hv1⟩ (fun hHeld => ?_)
          clear hK K
          refine norm_ (a' := ?_) ?_ ?_
          rotate_left
          · show Act.put _ (some 16) _ = _
            simp only [Act.put, List.setIfInBounds_toArray, List.set_cons_zero, List.set_cons_succ, i64_w, i32_w]
            rfl
          refine two_ (i := 3) (j := 4) (Ni := some 18) (Nj := some 5) #[true, true, true, true, false, true, false, false] #[true, true, true, false, true, true, false, false] rfl rfl rfl rfl (by kernel_rfl) (by decide) (by decide) (fun K hK => ?_) (fun K hK => ?_)
          · skip
            refine goes_ Try.func51 (by kernel_rfl) rfl #[.agg #[.int .i64 (n : Int), .slice Aw ws.length cw]] (by rfl) rfl rfl (by simp only [List.map_toArray, List.map_cons, List.map_nil]; rfl) ?_
            with_reducible refine (HPi.out Aw cw _ (Kd.C_below HW2.out X2.out) HCw.out).mono ?_
            rintro e w_3 ⟨vp, rfl, hRp, hb⟩
            obtain ⟨Ap, cp, rfl⟩ := Kd.R_slice hRp
            have hRp' := Aside0.mk (Kd.R_lower (base' := w3.heap.size) hRp X2.out.size)
            clear hRp
            have X3 := Aside0.mk (below_step X2.out hb)
            have n_ := Aside0.mk (blk_below gb6B.out hb)
            clear gb6B
            have gb6B := n_
            clear n_
            have n_ := Aside0.mk (Kd.R_below hRs'.out hb)
            clear hRs'
            have hRs' := n_
            clear n_
            clear hb
            refine ⟨_, rfl, ?_⟩
            refine hK.out _ _ ⟨cell_later X3.out hv0, cell_later X3.out hv1⟩ (fun hHeld => ?_)
            clear hK K
            refine norm_ (a' := ?_) ?_ ?_
            rotate_left
            · show Act.put _ (some 18) _ = _
              simp only [Act.put, List.setIfInBounds_toArray, List.set_cons_zero, List.set_cons_succ, i64_w, i32_w]
              rfl
            refine one_ (i := 4) (N := some 5) #[true, true, true, true, true, true, false, false] rfl rfl (by kernel_rfl) (by decide) (fun K hK => ?_)
            refine box_step ?hg (N := 5) ?hd (cs := #[.slice none 0 0]) (t := 22) ?hr ?_; (case hd => rfl); (case hg => rfl); (case hr => first | (go_simp; done) | (go_simp; rfl))
            intro gb5 hg w_4 hbox hb
            have gb5B := Aside0.mk hbox
            have gb5S := Aside0.mk (show w3.heap.size ≤ gb5 from by rw [hg]; exact X3.out.size)
            have gb5E := Aside0.mk hg
            clear hbox hg
            have hNE := Aside0.mk (show gb5 ≠ gb6 from by have h1 := blk_lt gb6B.out; have h2 := gb5E.out; omega)
            have X4 := Aside0.mk (below_step X3.out hb)
            have n_ := Aside0.mk (blk_below gb6B.out hb)
            clear gb6B
            have gb6B := n_
            clear n_
            have n_ := Aside0.mk (Kd.R_below hRs'.out hb)
            clear hRs'
            have hRs' := n_
            clear n_
            have n_ := Aside0.mk (Kd.R_below hRp'.out hb)
            clear hRp'
            have hRp' := n_
            clear n_
            clear hb
            refine hK.out _ _ ⟨cell_later X4.out hv0, cell_later X4.out hv1⟩ (fun hHeld => ?_)
            clear hK K
            refine norm_ (a' := ?_) ?_ ?_
            rotate_left
            · show Act.put _ (some 5) _ = _
              simp only [Act.put, List.setIfInBounds_toArray, List.set_cons_zero, List.set_cons_succ, i64_w, i32_w]
              rfl
            exact norm_ (by simp only [putAll, Act.put, List.setIfInBounds_toArray, List.set_cons_zero, List.set_cons_succ]) (hCont (gb5, gb6, (As, cs), (Ap, cp)) _ ⟨hHeld, hRs'.out, hRp'.out, gb5B.out, gb6B.out, gb5S.out, gb6S.out, hNE.out, X4.out⟩)
          · skip
            refine box_step ?hg (N := 5) ?hd (cs := #[.slice none 0 0]) (t := 22) ?hr ?_; (case hd => rfl); (case hg => rfl); (case hr => first | (go_simp; done) | (go_simp; rfl))
            intro gb5 hg w_3 hbox hb
            have gb5B := Aside0.mk hbox
            have gb5S := Aside0.mk (show w3.heap.size ≤ gb5 from by rw [hg]; exact X2.out.size)
            have gb5E := Aside0.mk hg
            clear hbox hg
            have hNE := Aside0.mk (show gb5 ≠ gb6 from by have h1 := blk_lt gb6B.out; have h2 := gb5E.out; omega)
            have X3 := Aside0.mk (below_step X2.out hb)
            have n_ := Aside0.mk (blk_below gb6B.out hb)
            clear gb6B
            have gb6B := n_
            clear n_
            have n_ := Aside0.mk (Kd.R_below hRs'.out hb)
            clear hRs'
            have hRs' := n_
            clear n_
            clear hb
            refine hK.out _ _ ⟨cell_later X3.out hv0, cell_later X3.out hv1⟩ (fun hHeld => ?_)
            clear hK K
            refine norm_ (a' := ?_) ?_ ?_
            rotate_left
            · show Act.put _ (some 5) _ = _
              simp only [Act.put, List.setIfInBounds_toArray, List.set_cons_zero, List.set_cons_succ, i64_w, i32_w]
              rfl
            refine one_ (i := 3) (N := some 18) #[true, true, true, true, true, true, false, false] rfl rfl (by kernel_rfl) (by decide) (fun K hK => ?_)
            refine goes_ Try.func51 (by kernel_rfl) rfl #[.agg #[.int .i64 (n : Int), .slice Aw ws.length cw]] (by rfl) rfl rfl (by simp only [List.map_toArray, List.map_cons, List.map_nil]; rfl) ?_
            with_reducible refine (HPi.out Aw cw _ (Kd.C_below HW2.out X3.out) HCw.out).mono ?_
            rintro e w_4 ⟨vp, rfl, hRp, hb⟩
            obtain ⟨Ap, cp, rfl⟩ := Kd.R_slice hRp
            have hRp' := Aside0.mk (Kd.R_lower (base' := w3.heap.size) hRp X3.out.size)
            clear hRp
            have X4 := Aside0.mk (below_step X3.out hb)
            have n_ := Aside0.mk (blk_below gb6B.out hb)
            clear gb6B
            have gb6B := n_
            clear n_
            have n_ := Aside0.mk (Kd.R_below hRs'.out hb)
            clear hRs'
            have hRs' := n_
            clear n_
            have n_ := Aside0.mk (blk_below gb5B.out hb)
            clear gb5B
            have gb5B := n_
            clear n_
            clear hb
            refine ⟨_, rfl, ?_⟩
            refine hK.out _ _ ⟨cell_later X4.out hv0, cell_later X4.out hv1⟩ (fun hHeld => ?_)
            clear hK K
            refine norm_ (a' := ?_) ?_ ?_
            rotate_left
            · show Act.put _ (some 18) _ = _
              simp only [Act.put, List.setIfInBounds_toArray, List.set_cons_zero, List.set_cons_succ, i64_w, i32_w]
              rfl
            exact norm_ (by simp only [putAll, Act.put, List.setIfInBounds_toArray, List.set_cons_zero, List.set_cons_succ]) (hCont (gb5, gb6, (As, cs), (Ap, cp)) _ ⟨hHeld, hRs'.out, hRp'.out, gb5B.out, gb6B.out, gb5S.out, gb6S.out, hNE.out, X4.out⟩)
        · skip
          refine box_step ?hg (N := 5) ?hd (cs := #[.slice none 0 0]) (t := 22) ?hr ?_; (case hd => rfl); (case hg => rfl); (case hr => first | (go_simp; done) | (go_simp; rfl))
          intro gb5 hg w_2 hbox hb
          have gb5B := Aside0.mk hbox
          have gb5S := Aside0.mk (show w3.heap.size ≤ gb5 from by rw [hg]; exact X1.out.size)
          have gb5E := Aside0.mk hg
          clear hbox hg
          have hNE := Aside0.mk (show gb5 ≠ gb6 from by have h1 := blk_lt gb6B.out; have h2 := gb5E.out; omega)
          have X2 := Aside0.mk (below_step X1.out hb)
          have n_ := Aside0.mk (blk_below gb6B.out hb)
          clear gb6B
          have gb6B := n_
          clear n_
          clear hb
          refine hK.out _ _ ⟨cell_later X2.out hv0, cell_later X2.out hv1⟩ (fun hHeld => ?_)
          clear hK K
          refine norm_ (a' := ?_) ?_ ?_
          rotate_left
          · show Act.put _ (some 5) _ = _
            simp only [Act.put, List.setIfInBounds_toArray, List.set_cons_zero, List.set_cons_succ, i64_w, i32_w]
            rfl
          refine one_ (i := 1) (N := some 16) #[true, true, true, false, true, true, false, false] rfl rfl (by kernel_rfl) (by decide) (fun K hK => ?_)
          refine goes_ Try.func41 (by kernel_rfl) rfl #[.agg #[.int .i64 (n : Int), .slice Aw ws.length cw]] (by rfl) rfl rfl (by simp only [List.map_toArray, List.map_cons, List.map_nil]; rfl) ?_
          with_reducible refine (HSw.out Aw cw _ (Kd.C_below HW2.out X2.out) HCw.out).mono ?_
          rintro e w_3 ⟨vs, rfl, hRs, hb⟩
          obtain ⟨As, cs, rfl⟩ := Kd.R_slice hRs
          have hRs' := Aside0.mk (Kd.R_lower (base' := w3.heap.size) hRs X2.out.size)
          clear hRs
          have X3 := Aside0.mk (below_step X2.out hb)
          have n_ := Aside0.mk (blk_below gb6B.out hb)
          clear gb6B
          have gb6B := n_
          clear n_
          have n_ := Aside0.mk (blk_below gb5B.out hb)
          clear gb5B
          have gb5B := n_
          clear n_
          clear hb
          refine ⟨_, rfl, ?_⟩
          refine hK.out _ _ ⟨cell_later X3.out hv0, cell_later X3.out hv1⟩ (fun hHeld => ?_)
          clear hK K
          refine norm_ (a' := ?_) ?_ ?_
          rotate_left
          · show Act.put _ (some 16) _ = _
            simp only [Act.put, List.setIfInBounds_toArray, List.set_cons_zero, List.set_cons_succ, i64_w, i32_w]
            rfl
          refine one_ (i := 3) (N := some 18) #[true, true, true, true, true, true, false, false] rfl rfl (by kernel_rfl) (by decide) (fun K hK => ?_)
          refine goes_ Try.func51 (by kernel_rfl) rfl #[.agg #[.int .i64 (n : Int), .slice Aw ws.length cw]] (by rfl) rfl rfl (by simp only [List.map_toArray, List.map_cons, List.map_nil]; rfl) ?_
          with_reducible refine (HPi.out Aw cw _ (Kd.C_below HW2.out X3.out) HCw.out).mono ?_
          rintro e w_4 ⟨vp, rfl, hRp, hb⟩
          obtain ⟨Ap, cp, rfl⟩ := Kd.R_slice hRp
          have hRp' := Aside0.mk (Kd.R_lower (base' := w3.heap.size) hRp X3.out.size)
          clear hRp
          have X4 := Aside0.mk (below_step X3.out hb)
          have n_ := Aside0.mk (blk_below gb6B.out hb)
          clear gb6B
          have gb6B := n_
          clear n_
          have n_ := Aside0.mk (blk_below gb5B.out hb)
          clear gb5B
          have gb5B := n_
          clear n_
          have n_ := Aside0.mk (Kd.R_below hRs'.out hb)
          clear hRs'
          have hRs' := n_
          clear n_
          clear hb
          refine ⟨_, rfl, ?_⟩
          refine hK.out _ _ ⟨cell_later X4.out hv0, cell_later X4.out hv1⟩ (fun hHeld => ?_)
          clear hK K
          refine norm_ (a' := ?_) ?_ ?_
          rotate_left
          · show Act.put _ (some 18) _ = _
            simp only [Act.put, List.setIfInBounds_toArray, List.set_cons_zero, List.set_cons_succ, i64_w, i32_w]
            rfl
          exact norm_ (by simp only [putAll, Act.put, List.setIfInBounds_toArray, List.set_cons_zero, List.set_cons_succ]) (hCont (gb5, gb6, (As, cs), (Ap, cp)) _ ⟨hHeld, hRs'.out, hRp'.out, gb5B.out, gb6B.out, gb5S.out, gb6S.out, hNE.out, X4.out⟩)
    rintro ⟨gb5, gb6, ⟨As, cs⟩, ⟨Ap, cp⟩⟩ w4 ⟨hHeld, hRs, hRp, hB5, hB6, hS5, hS6, hNE, hX⟩
    dsimp only at hHeld hRs hRp hB5 hB6 hS5 hS6 hNE hX ⊢
    have hc5 : w4.cell? ⟨gb5, 0, none⟩ = some (.slice none 0 0) := (blk_cell hB5 0).trans rfl
    have hf5 := blk_frozen hB5 0
    have hc6 : (w4.setCell ⟨gb5, 0, none⟩ (.slice As ss.length cs)).cell? ⟨gb6, 0, none⟩ = some (.slice none 0 0) := (blk_cell (blk_far hB6 (p := ⟨gb5, 0, none⟩) (Ne.symm hNE) _) 0).trans rfl
    have hf6 := blk_frozen (blk_far hB6 (p := ⟨gb5, 0, none⟩) (Ne.symm hNE) (.slice As ss.length cs)) 0
    refine norm_ (a' := ?_) ?_ ?_
    rotate_left
    · simp only [putAll, Act.put, List.setIfInBounds_toArray, List.set_cons_zero, List.set_cons_succ]
      rfl
    refine last_ (i := 6) (N := none) #[true, true, true, true, true, true, true, false] rfl rfl (by kernel_rfl) (by decide) (fun K hK => ?_)
    refine skip_ (w1 := ?_) (by rfl) rfl ?_ ?_
    rotate_left
    · go_simp
      rfl
    refine hK.out _ _ ?_
    clear hK K
    refine last_ (i := 7) (N := none) #[true, true, true, true, true, true, true, true] rfl rfl (by kernel_rfl) (by decide) (fun K hK => ?_)
    refine skip_ (w1 := ?_) (by rfl) rfl ?_ ?_
    rotate_left
    · go_simp
      rfl
    refine hK.out _ _ ?_
    clear hK K
    refine done_ (by kernel_rfl) ?_
    have hXl : Below w3.heap.size w3 ((w4.setCell ⟨gb5, 0, none⟩ (.slice As ss.length cs)).setCell ⟨gb6, 0, none⟩ (.slice Ap ps.length cp)) := below_set (below_set hX hS5) hS6
    have hRs1 := Kd.R_set (Kd.R_set hRs hB5 (by decide) 0 (.slice As ss.length cs)) (blk_far hB6 (p := ⟨gb5, 0, none⟩) (Ne.symm hNE) (.slice As ss.length cs)) (by decide) 0 (.slice Ap ps.length cp)
    have hRp1 := Kd.R_set (Kd.R_set hRp hB5 (by decide) 0 (.slice As ss.length cs)) (blk_far hB6 (p := ⟨gb5, 0, none⟩) (Ne.symm hNE) (.slice As ss.length cs)) (by decide) 0 (.slice Ap ps.length cp)
    have hL5 : ((w4.setCell ⟨gb5, 0, none⟩ (.slice As ss.length cs)).setCell ⟨gb6, 0, none⟩ (.slice Ap ps.length cp)).cell? ⟨gb5, 0, none⟩ = some (.slice As ss.length cs) := (blk_cell (blk_far (p := ⟨gb6, 0, none⟩) (blk_set hB5 0 _) hNE _) 0).trans rfl
    have hL6 : ((w4.setCell ⟨gb5, 0, none⟩ (.slice As ss.length cs)).setCell ⟨gb6, 0, none⟩ (.slice Ap ps.length cp)).cell? ⟨gb6, 0, none⟩ = some (.slice Ap ps.length cp) := (blk_cell (blk_set (blk_far (p := ⟨gb5, 0, none⟩) hB6 (Ne.symm hNE) _) 0 _) 0).trans rfl
    have hLn := cell_later hXl hv0
    clear hc5 hf5 hc6 hf6 hHeld hB5 hB6 hS5 hS6 hX hRs hRp hv0 hv1 HSw HPi HV HCom HW2 HCw X0
    generalize (w4.setCell ⟨gb5, 0, none⟩ (.slice As ss.length cs)).setCell ⟨gb6, 0, none⟩ (.slice Ap ps.length cp) = wl at hXl hRs1 hRp1 hL5 hL6 hLn ⊢
    have HCs := Aside0.mk (Kd.R_reads' hRs1).2.2
    have HCp := Aside0.mk (Kd.R_reads' hRp1).2.2
    have n0_ := Aside0.mk (below_step HB.out hXl)
    clear HB hXl hRs1 hRp1
    have HB := n0_
    clear n0_
    have H5 := Aside0.mk hL5
    have H6 := Aside0.mk hL6
    clear hL5 hL6
    go_wp2_with ((with_reducible refine gate_dst (N := 19) rfl ?_); refine Kd.S_lit (Kd.slice 3 (Kd.int .i64)) (w0 := wl) wl.heap.size 22 ?hg (N := 19) ?hd (xs := ([] : List (List Int))) (inner := []) (ok := fun _ => True) (okp := fun _ => True) ?hr ?hp (fun _ hk => hk) trivial (Below.refl _ _) (Nat.le_refl _) (by simp) ?_; (case hd => rfl); (case hg => rfl); (case hr => first | (go_simp; done) | (go_simp; rfl)); (case hp => exact (Reps.none _ _)); intro v5 w5 ho5 hb5 hg_ hnew_; clear hg_ hnew_; have HS5 := Aside0.mk ho5; have HB5 := Aside0.mk hb5; have hLn5 := cell_later hb5 hLn; obtain ⟨A5, c5, e5⟩ := Kd.S_slice ho5; subst e5; clear ho5 hb5)
    go_loopg [7, 22] n (fun gg s7 s22 wr => ∃ (kk : Nat), kk ≤ n ∧ n - kk ≤ gg ∧ s22 = .int .i64 kk ∧ Aside0 (Kd.S (Kd.slice 3 (Kd.int .i64)) 22 wr wl.heap.size (fun _ => True) s7 (sameS (sameP ss ps) kk)) ∧ Aside0 (Below wl.heap.size wl wr))
    case atStart => exact ⟨0, Nat.zero_le _, by omega, rfl, HS5, HB5⟩
    case round =>
      clear HS5 HB5 hLn5 hLn hHeld hgt3
      obtain ⟨kk, hkk, hgg, rfl, HS, HBr⟩ := hrel
      by_cases hlt : kk < n
      · have hltz : (kk : Int) < (n : Int) := by omega
        obtain ⟨hi1, hi2, -⟩ := sameS_inv (sameP ss ps) kk
        have hnext := sameS_succ (sameP ss ps) kk
        have hn1000 := HN.out.1
        generalize sameS (sameP ss ps) kk = out at HS hi1 hi2 hnext
        obtain ⟨A, c, rfl⟩ := Kd.S_slice HS.out
        have hwlk : Below wl.heap.size wl (wr.alloc (.cells #[.int .i64 (kk : Int)] 3)) := below_alloc HBr.out _
        have hr9 := Kd.S_reads' (Kd.S_alloc HS.out (.cells #[.int .i64 (kk : Int)] 3))
        have hidx := slices_IndexFunc_rows.hof (Kd.slice 3 (Kd.int .i64)) rfl 53 #[.pointer (some ⟨gb5, 0, none⟩), .pointer (some ⟨wr.heap.size, 0, none⟩), .pointer (some ⟨gb6, 0, none⟩)] (enters_of Try.func53 (by kernel_rfl) rfl) (fitsS (sameP ss ps) kk) A c out (wr.alloc (.cells #[.int .i64 (kk : Int)] 3)) (impl_SamePower.lit gb5 wr.heap.size gb6 As Ap cs cp ss ps n kk out (fun g hg => ⟨(hi1 g hg).1, fun x hx => ⟨((hi1 g hg).2.2 x hx).1, by have := ((hi1 g hg).2.2 x hx).2; omega⟩⟩) hlt HN.out.2.1 HN.out.2.2 _ (cell_later hwlk H5.out) ((blk_cell (blk_new wr _) 0).trans rfl) (cell_later hwlk H6.out) (Kd.C_below HCs.out hwlk) (Kd.C_below HCp.out hwlk)) hr9.2.2 hr9.2.1
        clear hr9 hwlk
        rw [idxOf_find] at hidx
        have hput : putS (sameP ss ps) out kk = match out.findIdx? (fitsS (sameP ss ps) kk) with | none => out ++ [[(kk : Int)]] | some i => out.set i (out.getD i [] ++ [(kk : Int)]) := rfl
        cases hf : out.findIdx? (fitsS (sameP ss ps) kk) with
        | none =>
          rw [hf] at hidx hput
          dsimp only at hidx hput
          have HI := Aside0.mk hidx
          have HNx := Aside0.mk (hnext.trans hput)
          have HL := Aside0.mk hi2
          clear hidx hput hnext hf hi1 hi2
          go_wp2_with (first | (go_at_call 52; refine HI.out.mono ?_; rintro e w6 ⟨rfl, hb6⟩; have hck : w6.cell? ⟨wr.heap.size, 0, none⟩ = some (.int .i64 (kk : Int)) := (blk_cell (blk_below (blk_new wr _) hb6) 0).trans rfl; have n0_ := Aside0.mk (Kd.S_below (Kd.S_alloc HS.out _) hb6); have n1_ := Aside0.mk (below_step (below_alloc HBr.out _) hb6); clear HS HBr hb6; have HS := n0_; have HBr := n1_; clear n0_ n1_; have aP_ := one_row 3 w6 wl.heap.size (below_size HBr.out) (kk : Int); have s0_ : 0 < (Kd.slice 3 (Kd.int .i64)).sz := Nat.one_pos; have b0_ : 0 < 24 := (by omega); have aB_ : Below wl.heap.size wl (w6.alloc (.cells #[.int .i64 (kk : Int)] 3)) := below_alloc HBr.out _; have aS_ := aB_.size; have aX_ : Value.slice (some ⟨w6.heap.size + 1, 0, none⟩) 1 1 = .slice (some ⟨(w6.alloc (.cells #[.int .i64 (kk : Int)] 3)).heap.size, 0, none⟩) 1 1 := (by simp); have aL_ : (out.length + 1) * 24 ≤ 140737488355328 := (by have := HL.out; omega); have aK_ : ∀ k_, k_ = w6.heap.size → True ∧ some k_ ≠ (Value.slice A out.length c).ownBlock := (fun k_ e_ => ⟨trivial, fun h_ => Nat.lt_irrefl k_ (by have h2_ := Kd.S_lt HS.out k_ h_.symm; omega)⟩); have aO_ := Kd.S_mono (ok' := fun k_ => True ∧ ¬ k_ = w6.heap.size) (Kd.S_alloc (Kd.S_bound HS.out) (.cells #[.int .i64 (kk : Int)] 3)) (fun k_ h_ => ⟨trivial, fun e_ => Nat.lt_irrefl k_ (by have h2_ := h_.2.2.1; omega)⟩)) | ((with_reducible refine gate_builtin (b := .append) (xs := #[.tmp 30, .tmp 33]) rfl ?_); at_builtin; refine Kd.S_append (Kd.slice 3 (Kd.int .i64)) (w0 := wl) wl.heap.size rfl (.tmp 30) (.tmp 33) 37 22 (.slice none 0 0) 24 rfl Try.underlying37 info22 rfl s0_ b0_ (.slice A out.length c) out [(kk : Int)] [.slice (some ⟨w6.heap.size, 0, none⟩) 1 1] (fun _ => True) (fun k_ => k_ = w6.heap.size) ?aV ?aX ?aP ?aK ?aF ?aO ?aB ?aS ?aL ?_; (case aV => exact rfl); (case aX => exact rfl); (case aP => exact Kd.M_row aP_); (case aK => exact aK_); (case aF => exact fun _ _ => trivial); (case aO => exact aO_); (case aB => exact aB_); (case aS => exact aS_); (case aL => exact aL_); intro v1 w7 ho hb hg hat; have n0_ := Aside0.mk ho; have n1_ := Aside0.mk hb; clear ho hb hg hat HS HBr; have HS := n0_; have HBr := n1_; clear n0_ n1_))
          go_roundg (n - (kk + 1))
          case measure => omega
          case rel => exact ⟨kk + 1, by omega, by omega, by go_num, by rw [HNx.out]; exact HS, HBr⟩
        | some i =>
          rw [hf] at hidx hput
          dsimp only at hidx hput
          obtain ⟨hi, -⟩ := List.findIdx?_eq_some_iff_getElem.1 hf
          obtain ⟨g, cap, e, hbg, -⟩ := Kd.S_form HS.out (by omega)
          injection e with e1 e2 e3
          clear e2 e3
          subst e1
          have hil : (i : Int) < (out.length : Int) := by omega
          have hnn : ¬ (i : Int) < 0 := by omega
          obtain ⟨oki, cc, hcl, hM, hcc, hoki, hH⟩ := Kd.S_lend HS.out [] (i : Int) (Int.natCast_nonneg _) hil
          have hxl : (out.getD i []).length ≤ kk := by rw [List.getD_eq_getElem?_getD, List.getElem?_eq_getElem hi]; exact (hi1 _ (List.getElem_mem hi)).2.1
          rw [Int.toNat_natCast] at hM
          obtain ⟨vi, rfl, hRi⟩ := hM
          have hsz8 : ((i : Int)).toNat * (Kd.slice 3 (Kd.int .i64)).sz + 0 = i := by rw [Int.toNat_natCast]; exact Nat.mul_one i
          have hci := hcc 0 vi rfl
          rw [hsz8] at hci
          generalize out.getD i [] = xi at hRi hxl hput
          have HI := Aside0.mk hidx
          have HNx := Aside0.mk (hnext.trans hput)
          have hck9 : (wr.alloc (.cells #[.int .i64 (kk : Int)] 3)).cell? ⟨wr.heap.size, 0, none⟩ = some (.int .i64 (kk : Int)) := (blk_cell (blk_new wr _) 0).trans rfl
          clear hidx hput hnext hf hi1 hi2 hcc hcl HS
          go_wp2_with (go_at_call 52; refine HI.out.mono ?_; rintro e w6 ⟨rfl, hb6⟩; have HR6 := Aside0.mk (below_step (below_alloc (Below.refl wr.heap.size wr) _) hb6); have hck0 : w6.drew.cell? ⟨wr.heap.size, 0, none⟩ = some (.int .i64 (kk : Int)) := cell_later (below_drew1 hb6) hck9; have hci0 : w6.drew.cell? ⟨g, i, none⟩ = some vi := cell_later (below_drew1 HR6.out) hci; clear hb6 hci hck9)
          refine start_ (n := 11) (S := fun w' => w'.cell? ⟨g, i, none⟩ = some vi ∧ w'.cell? ⟨wr.heap.size, 0, none⟩ = some (.int .i64 (kk : Int))) (ds := [8, 10]) #[false, false, false, false, false, false, false, false, false, false, false] (by kernel_rfl) rfl rfl ⟨hci0, hck0⟩ (fun hHeld => ?_)
          refine pure_ (i := 0) (N := some 35) (v := ?_) (a' := ?_) #[true, false, false, false, false, false, false, false, false, false, false] rfl rfl (by kernel_rfl) (fun _ _ _ h => h) (Or.inl ⟨by rfl, ?_⟩) ?_ ?_
          rotate_left
          · intro w'
            go_simp
            with_reducible rfl
          rotate_left
          · simp only [Act.put, List.setIfInBounds_toArray, List.set_cons_zero, List.set_cons_succ, i64_w, i32_w]
            rfl
          refine pure_ (i := 1) (N := some 36) (v := ?_) (a' := ?_) #[true, true, false, false, false, false, false, false, false, false, false] rfl rfl (by kernel_rfl) (fun _ _ _ h => h) (Or.inl ⟨by rfl, ?_⟩) ?_ ?_
          rotate_left
          · intro w'
            go_simp
            with_reducible rfl
          rotate_left
          · simp only [Act.put, List.setIfInBounds_toArray, List.set_cons_zero, List.set_cons_succ, i64_w, i32_w]
            rfl
          refine pure_ (i := 2) (N := some 37) (v := ?_) (a' := ?_) #[true, true, true, false, false, false, false, false, false, false, false] rfl rfl (by kernel_rfl) (fun _ _ _ h => h) (Or.inl ⟨by rfl, ?_⟩) ?_ ?_
          rotate_left
          · intro w'
            go_simp
            with_reducible rfl
          rotate_left
          · simp only [Act.put, List.setIfInBounds_toArray, List.set_cons_zero, List.set_cons_succ, i64_w, i32_w]
            rfl
          refine pure_ (i := 3) (N := some 38) (v := ?_) (a' := ?_) #[true, true, true, true, false, false, false, false, false, false, false] rfl rfl (by kernel_rfl) (fun _ _ _ h => h) (Or.inl ⟨by rfl, ?_⟩) ?_ ?_
          rotate_left
          · intro w'
            go_simp
            with_reducible rfl
          rotate_left
          · simp only [Act.put, List.setIfInBounds_toArray, List.set_cons_zero, List.set_cons_succ, i64_w, i32_w]
            rfl
          refine pure_ (i := 4) (N := some 39) (v := ?_) (a' := ?_) #[true, true, true, true, true, false, false, false, false, false, false] rfl rfl (by kernel_rfl) (fun _ _ _ h => h) (Or.inl ⟨by rfl, ?_⟩) ?_ ?_
          rotate_left
          · intro w'
            go_simp
            with_reducible rfl
          rotate_left
          · simp only [Act.put, List.setIfInBounds_toArray, List.set_cons_zero, List.set_cons_succ, i64_w, i32_w]
            rfl
          refine take_ (i := 5) (N := some 40) (v := ?_) (a' := ?_) #[true, true, true, true, true, true, false, false, false, false, false] rfl rfl (by kernel_rfl) (fun _ _ _ h => h) (Or.inl ⟨by rfl, ?_⟩) hHeld ?_ ?_
          rotate_left
          · rintro w' ⟨s0, s1⟩
            go_simp
            with_reducible rfl
          rotate_left
          · simp only [Act.put, List.setIfInBounds_toArray, List.set_cons_zero, List.set_cons_succ, i64_w, i32_w]
            rfl
          refine take_ (i := 6) (N := some 41) (v := ?_) (a' := ?_) #[true, true, true, true, true, true, true, false, false, false, false] rfl rfl (by kernel_rfl) (fun _ _ _ h => h) (Or.inl ⟨by rfl, ?_⟩) hHeld ?_ ?_
          rotate_left
          · rintro w' ⟨s0, s1⟩
            go_simp
            with_reducible rfl
          rotate_left
          · simp only [Act.put, List.setIfInBounds_toArray, List.set_cons_zero, List.set_cons_succ, i64_w, i32_w]
            rfl
          refine one_ (i := 7) (N := some 42) #[true, true, true, true, true, true, true, true, false, false, false] rfl rfl (by kernel_rfl) (by decide) (fun K hK => ?_)
          refine value_ (w1 := w6.drew.alloc (.cells #[.int .i64 (kk : Int)] 3)) (v := .slice (some ⟨w6.drew.heap.size, 0, none⟩) 1 1) (by rfl) rfl ?_ ?_
          · go_simp
          refine hK.out _ _ ⟨cell_later (below_alloc (Below.refl _ _) _) hci0, cell_later (below_alloc (Below.refl _ _) _) hck0⟩ (fun hHeld => ?_)
          clear hK K
          refine norm_ (a' := ?_) ?_ ?_
          rotate_left
          · show Act.put _ (some 42) _ = _
            simp only [Act.put, List.setIfInBounds_toArray, List.set_cons_zero, List.set_cons_succ, i64_w, i32_w]
            rfl
          refine last_ (i := 8) (N := some 43) #[true, true, true, true, true, true, true, true, true, false, false] rfl rfl (by kernel_rfl) (by decide) (fun K hK => ?_)
          have hbW : Below wr.heap.size wr w6.drew := below_drew1 HR6.out
          have hBW : Below wl.heap.size wl w6.drew := below_step HBr.out hbW
          refine Kd.R_append_step (Kd.int .i64) (w0 := wl) wl.heap.size (by rfl) (.tmp 40) (.tmp 42) 22 3 (.int .i64 0) 8 rfl Try.underlying22 info3 rfl (by decide) (by omega) vi xi (kk : Int) [.int .i64 (kk : Int)] (fun k_ => oki k_ ∨ True ∧ wr.heap.size ≤ k_) (fun _ => False) rfl rfl rfl (fun _ hk => hk.elim) (fun k_ hk_ => .inr ⟨trivial, Nat.le_trans hbW.size hk_⟩) (Kd.R_mono (Kd.R_below hRi hbW) (fun _ hk_ => .inl hk_)) hBW hBW.size (by omega) ?_
          intro v1 w8 ho8 hb8 hg8 hat8
          obtain ⟨A8, c8, rfl⟩ := Kd.R_slice ho8
          have hH8 := Kd.H_grown (Kd.H_below (Kd.H_widen hH) hbW) hg8 (fun k_ e_ => .inl (hRi.1 k_ e_))
          have hat8 := Kd.H_at hH8 (Int.natCast_nonneg _) hil
          have hci8 := hat8.1 0 vi rfl
          have hfz8 := hat8.2 0
          rw [hsz8] at hci8 hfz8
          refine hK.out _ _ ?_
          clear hK K
          refine norm_ (a' := ?_) ?_ ?_
          rotate_left
          · show Act.put _ (some 43) _ = _
            simp only [Act.put, List.setIfInBounds_toArray, List.set_cons_zero, List.set_cons_succ, i64_w, i32_w]
            rfl
          refine pure_ (i := 9) (N := some 44) (v := ?_) (a' := ?_) #[true, true, true, true, true, true, true, true, true, true, false] rfl rfl (by kernel_rfl) (fun _ _ _ h => h) (Or.inl ⟨by rfl, ?_⟩) ?_ ?_
          rotate_left
          · intro w'
            go_simp
            with_reducible rfl
          rotate_left
          · simp only [Act.put, List.setIfInBounds_toArray, List.set_cons_zero, List.set_cons_succ, i64_w, i32_w]
            rfl
          refine last_ (i := 10) (N := none) #[true, true, true, true, true, true, true, true, true, true, true] rfl rfl (by kernel_rfl) (by decide) (fun K hK => ?_)
          refine skip_ (w1 := ?_) (by rfl) rfl ?_ ?_
          rotate_left
          · go_simp
            rfl
          refine hK.out _ _ ?_
          clear hK K
          refine done_ (by kernel_rfl) ?_
          have hl9 : (xi ++ [(kk : Int)]).length = xi.length + 1 := by simp
          rw [hl9] at ho8
          have hs9 := Kd.S_seg0 hH8 (Int.natCast_nonneg _) hil (seg := [.slice A8 (xi.length + 1) c8]) (j := 0) (show 0 + 1 ≤ 1 from by decide) (x' := xi ++ [(kk : Int)]) (Kd.M_row ho8) (fun _ hk => hk)
          rw [hsz8, Int.toNat_natCast] at hs9
          have HS9 := Aside0.mk hs9.1
          have HB9 := Aside0.mk (below_set (j := i) (v := .slice A8 (xi.length + 1) c8) hb8 hbg)
          clear hs9 hat8 hci8 hfz8 hH8 ho8 hb8 hg8 hbW hBW
          go_wp2
          go_roundg (n - (kk + 1))
          case measure => omega
          case rel => exact ⟨kk + 1, by omega, by omega, by go_num, by rw [HNx.out]; exact HS9, HB9⟩
      · have hltz : ¬ (kk : Int) < (n : Int) := by omega
        obtain rfl : kk = n := by omega
        go_wp2
        go_ret2
        exact ⟨_, rfl, by rw [← HR.out]; exact Kd.S_lower HS.out (below_size HB.out), below_step HB.out HBr.out⟩


/-! ### laws_eqIntSS: function 22 -/
def laws_eqIntSS.l0 : Nat → List (List Int) → List (List Int) → Int → Option (Bool)
  | 0, _, _, _ => none
  | k + 1, x0, x1, x5 => if x5 < (x0.length : Int) then (if 0 ≤ x5 then (if x5 < (x1.length : Int) then ((laws_eqIntS.f k (rd_L2 x0 x5) (rd_L2 x1 x5)).bind fun t337 => (if t337 = true then (laws_eqIntSS.l0 k x0 x1 (wrap64 (x5 + 1))) else (some false))) else (none)) else (none)) else (some true)
def laws_eqIntSS.f (k : Nat) (l0 : List (List Int)) (l1 : List (List Int)) : Option (Bool) := if (l0.length : Int) = (l1.length : Int) then (laws_eqIntSS.l0 k l0 l1 0) else (some false)
theorem laws_eqIntSS.mono_l : ∀ k, (∀ y0 y1 y2, LeO (laws_eqIntSS.l0 k y0 y1 y2) (laws_eqIntSS.l0 (k + 1) y0 y1 y2))
  | 0 => fun _ _ _ r h => by simp [laws_eqIntSS.l0] at h
  | k + 1 => by
    have ih0 := laws_eqIntSS.mono_l k
    · intro y0 y1 y2
      unfold laws_eqIntSS.l0
      repeat' first
      | (with_reducible exact ih0 _ _ _)
      | (with_reducible exact laws_eqIntS.mono _ _ _)
      | (with_reducible exact LeO.refl _)
      | (with_reducible exact LeO.none _)
      | (with_reducible refine LeO.ite ?_ ?_)
      | (with_reducible refine LeO.bind ?_ (fun _ => ?_))
      | exact ih0 _ _ _
      | exact laws_eqIntS.mono _ _ _
      | exact LeO.none _
      | refine LeO.ite ?_ ?_
      | refine LeO.bind ?_ (fun _ => ?_)
theorem laws_eqIntSS.mono : ∀ a0 a1 k, LeO (laws_eqIntSS.f k a0 a1) (laws_eqIntSS.f (k + 1) a0 a1) := by
  intro a0 a1 k
  have ih0 := laws_eqIntSS.mono_l k
  unfold laws_eqIntSS.f
  repeat' first
      | (with_reducible exact ih0 _ _ _)
      | (with_reducible exact laws_eqIntS.mono _ _ _)
      | (with_reducible exact LeO.refl _)
      | (with_reducible exact LeO.none _)
      | (with_reducible refine LeO.ite ?_ ?_)
      | (with_reducible refine LeO.bind ?_ (fun _ => ?_))
      | exact ih0 _ _ _
      | exact laws_eqIntS.mono _ _ _
      | exact LeO.none _
      | refine LeO.ite ?_ ?_
      | refine LeO.bind ?_ (fun _ => ?_)
set_option maxHeartbeats 8000000 in
set_option maxRecDepth 100000 in
theorem laws_eqIntSS.calls (k : Nat) (A0 : Option Addr) (c0 : Nat) (l0 : List (List Int)) (A1 : Option Addr) (c1 : Nat) (l1 : List (List Int)) (r : Bool) (w : World) (hr0 : Kd.C (Kd.slice 3 (Kd.int .i64)) w A0 l0.length l0) (hc0 : l0.length ≤ c0) (hr1 : Kd.C (Kd.slice 3 (Kd.int .i64)) w A1 l1.length l1) (hc1 : l1.length ≤ c1) (h : laws_eqIntSS.f k l0 l1 = some r) :
    Calls Try.prog 22 #[.slice A0 l0.length c0, .slice A1 l1.length c1] w fun e w' => e = .returned (.bool r) ∧ Drawn0 w w' := by
  have HR0 := Aside0.mk hr0
  have HC0 := Aside0.mk hc0
  clear hr0 hc0
  have HR1 := Aside0.mk hr1
  have HC1 := Aside0.mk hc1
  clear hr1 hc1
  have H : (if (l0.length : Int) = (l1.length : Int) then (laws_eqIntSS.l0 k l0 l1 0) else (some false)) = some r := h
  clear h
  by_cases c3 : (l0.length : Int) = (l1.length : Int)
  · rw [if_pos c3] at H
    have c3b0 : ((l0.length : Int) == (l1.length : Int)) = true := beq_iff_eq.mpr c3
    have c3b1 : ((l0.length : Int) != (l1.length : Int)) = false := bne_eq_false_iff_eq.mpr c3
    have c3b2 : (l0.length == l1.length) = true := by first | simpa using c3 | (simp at c3 ⊢; omega)
    clear c3
    have H' := Aside0.mk H
    clear H
    go_enter Try.func22, Try.ntmps22
    go_wp2
    repeat (go_quiet (fail); try go_wp2)
    go_loopg [5] k (fun kq v5 w' => ∃ (x5_1 : Int), v5 = .int .i64 x5_1 ∧ Aside0 (laws_eqIntSS.l0 kq l0 l1 x5_1 = some r) ∧ Aside0 (kq ≤ k) ∧ Drawn0 w w')
    case atStart => exact ⟨(0), (by first | rfl | (simp; done) | (simp [*]; done)), H', ⟨Nat.le_refl _⟩, by repeat (first | exact Drawn0.refl _ | apply Drawn0.step)⟩
    case round =>
      clear H'
      try clear c1
      try clear c2
      try clear p2
      try clear c3
      try clear c3b0
      try clear c3b1
      try clear c3b2
      obtain ⟨x5_1, rfl, HA, HK1, ⟨m1, rfl⟩⟩ := hrel
      cases gk with
      | zero => exact absurd HA.out (by simp [laws_eqIntSS.l0])
      | succ k1 =>
        have H := HA.out
        clear HA
        simp only [laws_eqIntSS.l0] at H
        by_cases c4 : x5_1 < (l0.length : Int)
        · rw [if_pos c4] at H
          have c4b0 : decide (x5_1 < (l0.length : Int)) = true := decide_eq_true c4
          clear c4
          by_cases c5 : 0 ≤ x5_1
          · rw [if_pos c5] at H
            have c5b0 : decide (0 ≤ x5_1) = true := decide_eq_true c5
            clear c5
            by_cases c6 : x5_1 < (l1.length : Int)
            · rw [if_pos c6] at H
              have c6b0 : decide (x5_1 < (l1.length : Int)) = true := decide_eq_true c6
              clear c6
              replace H := Option.bind_eq_some_iff.mp H
              obtain ⟨t337, A70, H⟩ := H
              replace H : (if t337 = true then (laws_eqIntSS.l0 k1 l0 l1 (wrap64 (x5_1 + 1))) else (some false)) = some r := H
              have A7 := Aside0.mk A70
              clear A70
              by_cases c8 : t337 = true
              · subst c8
                have H1 : (laws_eqIntSS.l0 k1 l0 l1 (wrap64 (x5_1 + 1))) = some r := by rw [if_pos rfl] at H; exact H
                clear H
                have H := H1
                clear H1
                have H' := Aside0.mk H
                clear H
                have p335 : 0 ≤ (x5_1 : Int) := of_decide_eq_true (by first | (with_reducible assumption) | assumption)
                have q335 : x5_1 < (l0.length : Int) := of_decide_eq_true (by first | (with_reducible assumption) | assumption)
                obtain ⟨ad335, A335_0, c335_0, e335, hx335_0, hl335_0, hi335_0⟩ := at_L2 HR0.out x5_1 p335 q335
                cases e335
                have HR335_0 := Aside0.mk hi335_0
                have HC335_0 := Aside0.mk hl335_0
                clear hi335_0 hl335_0
                replace p335 := eq_true p335
                replace q335 := eq_true q335
                have p336 : 0 ≤ (x5_1 : Int) := of_decide_eq_true (by first | (with_reducible assumption) | assumption)
                have q336 : x5_1 < (l1.length : Int) := of_decide_eq_true (by first | (with_reducible assumption) | assumption)
                obtain ⟨ad336, A336_0, c336_0, e336, hx336_0, hl336_0, hi336_0⟩ := at_L2 HR1.out x5_1 p336 q336
                cases e336
                have HR336_0 := Aside0.mk hi336_0
                have HC336_0 := Aside0.mk hl336_0
                clear hi336_0 hl336_0
                replace p336 := eq_true p336
                replace q336 := eq_true q336
                go_wp2_with (first | (go_at_call 12; (with_reducible refine (laws_eqIntS.calls k1 _ _ (rd_L2 l0 x5_1) _ _ (rd_L2 l1 x5_1) true _ ?side1 ?side2 ?side3 ?side4 A7.out).mono ?_); (case side1 => repeat (first | exact HR335_0.out | (with_reducible refine Kd.C_alloc ?_ _) | (with_reducible refine Kd.C_drewN ?_ _) | (with_reducible refine Kd.C_drew ?_))); (case side2 => exact HC335_0.out); (case side3 => repeat (first | exact HR336_0.out | (with_reducible refine Kd.C_alloc ?_ _) | (with_reducible refine Kd.C_drewN ?_ _) | (with_reducible refine Kd.C_drew ?_))); (case side4 => exact HC336_0.out); rintro e w' ⟨rfl, ⟨nd, rfl⟩⟩; (try first | exact ⟨rfl, _, World.drewN_drewN _ _ _⟩ | exact ⟨rfl, _, Eq.trans (World.drewN_drewN _ _ _) (congrArg (World.drewN _) (Nat.add_assoc _ _ _))⟩)))
                repeat (go_quiet (first | (go_at_call 12; (with_reducible refine (laws_eqIntS.calls k1 _ _ (rd_L2 l0 x5_1) _ _ (rd_L2 l1 x5_1) true _ ?side1 ?side2 ?side3 ?side4 A7.out).mono ?_); (case side1 => repeat (first | exact HR335_0.out | (with_reducible refine Kd.C_alloc ?_ _) | (with_reducible refine Kd.C_drewN ?_ _) | (with_reducible refine Kd.C_drew ?_))); (case side2 => exact HC335_0.out); (case side3 => repeat (first | exact HR336_0.out | (with_reducible refine Kd.C_alloc ?_ _) | (with_reducible refine Kd.C_drewN ?_ _) | (with_reducible refine Kd.C_drew ?_))); (case side4 => exact HC336_0.out); rintro e w' ⟨rfl, ⟨nd, rfl⟩⟩; (try first | exact ⟨rfl, _, World.drewN_drewN _ _ _⟩ | exact ⟨rfl, _, Eq.trans (World.drewN_drewN _ _ _) (congrArg (World.drewN _) (Nat.add_assoc _ _ _))⟩))); try go_wp2_with (first | (go_at_call 12; (with_reducible refine (laws_eqIntS.calls k1 _ _ (rd_L2 l0 x5_1) _ _ (rd_L2 l1 x5_1) true _ ?side1 ?side2 ?side3 ?side4 A7.out).mono ?_); (case side1 => repeat (first | exact HR335_0.out | (with_reducible refine Kd.C_alloc ?_ _) | (with_reducible refine Kd.C_drewN ?_ _) | (with_reducible refine Kd.C_drew ?_))); (case side2 => exact HC335_0.out); (case side3 => repeat (first | exact HR336_0.out | (with_reducible refine Kd.C_alloc ?_ _) | (with_reducible refine Kd.C_drewN ?_ _) | (with_reducible refine Kd.C_drew ?_))); (case side4 => exact HC336_0.out); rintro e w' ⟨rfl, ⟨nd, rfl⟩⟩; (try first | exact ⟨rfl, _, World.drewN_drewN _ _ _⟩ | exact ⟨rfl, _, Eq.trans (World.drewN_drewN _ _ _) (congrArg (World.drewN _) (Nat.add_assoc _ _ _))⟩))))
                go_roundg k1
                case measure => have := HK1.out; omega
                case rel => exact ⟨(wrap64 (x5_1 + 1)), (by first | rfl | (simp; done) | (simp [*]; done)), H', ⟨by have := HK1.out; omega⟩, by repeat (first | exact Drawn0.refl _ | apply Drawn0.step)⟩
              · replace c8 := Bool.eq_false_iff.mpr c8
                subst c8
                have H1 : (some false) = some r := by rw [if_neg (show ¬ (false = true) by decide)] at H; exact H
                clear H
                have H := H1
                clear H1
                obtain rfl := Option.some.inj H
                have p335 : 0 ≤ (x5_1 : Int) := of_decide_eq_true (by first | (with_reducible assumption) | assumption)
                have q335 : x5_1 < (l0.length : Int) := of_decide_eq_true (by first | (with_reducible assumption) | assumption)
                obtain ⟨ad335, A335_0, c335_0, e335, hx335_0, hl335_0, hi335_0⟩ := at_L2 HR0.out x5_1 p335 q335
                cases e335
                have HR335_0 := Aside0.mk hi335_0
                have HC335_0 := Aside0.mk hl335_0
                clear hi335_0 hl335_0
                replace p335 := eq_true p335
                replace q335 := eq_true q335
                have p336 : 0 ≤ (x5_1 : Int) := of_decide_eq_true (by first | (with_reducible assumption) | assumption)
                have q336 : x5_1 < (l1.length : Int) := of_decide_eq_true (by first | (with_reducible assumption) | assumption)
                obtain ⟨ad336, A336_0, c336_0, e336, hx336_0, hl336_0, hi336_0⟩ := at_L2 HR1.out x5_1 p336 q336
                cases e336
                have HR336_0 := Aside0.mk hi336_0
                have HC336_0 := Aside0.mk hl336_0
                clear hi336_0 hl336_0
                replace p336 := eq_true p336
                replace q336 := eq_true q336
                go_wp2_with (first | (go_at_call 12; (with_reducible refine (laws_eqIntS.calls k1 _ _ (rd_L2 l0 x5_1) _ _ (rd_L2 l1 x5_1) false _ ?side1 ?side2 ?side3 ?side4 A7.out).mono ?_); (case side1 => repeat (first | exact HR335_0.out | (with_reducible refine Kd.C_alloc ?_ _) | (with_reducible refine Kd.C_drewN ?_ _) | (with_reducible refine Kd.C_drew ?_))); (case side2 => exact HC335_0.out); (case side3 => repeat (first | exact HR336_0.out | (with_reducible refine Kd.C_alloc ?_ _) | (with_reducible refine Kd.C_drewN ?_ _) | (with_reducible refine Kd.C_drew ?_))); (case side4 => exact HC336_0.out); rintro e w' ⟨rfl, ⟨nd, rfl⟩⟩; (try first | exact ⟨rfl, _, World.drewN_drewN _ _ _⟩ | exact ⟨rfl, _, Eq.trans (World.drewN_drewN _ _ _) (congrArg (World.drewN _) (Nat.add_assoc _ _ _))⟩)))
                repeat (go_quiet (first | (go_at_call 12; (with_reducible refine (laws_eqIntS.calls k1 _ _ (rd_L2 l0 x5_1) _ _ (rd_L2 l1 x5_1) false _ ?side1 ?side2 ?side3 ?side4 A7.out).mono ?_); (case side1 => repeat (first | exact HR335_0.out | (with_reducible refine Kd.C_alloc ?_ _) | (with_reducible refine Kd.C_drewN ?_ _) | (with_reducible refine Kd.C_drew ?_))); (case side2 => exact HC335_0.out); (case side3 => repeat (first | exact HR336_0.out | (with_reducible refine Kd.C_alloc ?_ _) | (with_reducible refine Kd.C_drewN ?_ _) | (with_reducible refine Kd.C_drew ?_))); (case side4 => exact HC336_0.out); rintro e w' ⟨rfl, ⟨nd, rfl⟩⟩; (try first | exact ⟨rfl, _, World.drewN_drewN _ _ _⟩ | exact ⟨rfl, _, Eq.trans (World.drewN_drewN _ _ _) (congrArg (World.drewN _) (Nat.add_assoc _ _ _))⟩))); try go_wp2_with (first | (go_at_call 12; (with_reducible refine (laws_eqIntS.calls k1 _ _ (rd_L2 l0 x5_1) _ _ (rd_L2 l1 x5_1) false _ ?side1 ?side2 ?side3 ?side4 A7.out).mono ?_); (case side1 => repeat (first | exact HR335_0.out | (with_reducible refine Kd.C_alloc ?_ _) | (with_reducible refine Kd.C_drewN ?_ _) | (with_reducible refine Kd.C_drew ?_))); (case side2 => exact HC335_0.out); (case side3 => repeat (first | exact HR336_0.out | (with_reducible refine Kd.C_alloc ?_ _) | (with_reducible refine Kd.C_drewN ?_ _) | (with_reducible refine Kd.C_drew ?_))); (case side4 => exact HC336_0.out); rintro e w' ⟨rfl, ⟨nd, rfl⟩⟩; (try first | exact ⟨rfl, _, World.drewN_drewN _ _ _⟩ | exact ⟨rfl, _, Eq.trans (World.drewN_drewN _ _ _) (congrArg (World.drewN _) (Nat.add_assoc _ _ _))⟩))))
                go_ret
                exact ⟨by first | rfl | (simp; done) | (simp [*]; done), by repeat (first | exact Drawn0.refl _ | apply Drawn0.step)⟩
            · rw [if_neg c6] at H
              exact absurd H (by simp)
          · rw [if_neg c5] at H
            exact absurd H (by simp)
        · rw [if_neg c4] at H
          have c4b0 : decide (x5_1 < (l0.length : Int)) = false := decide_eq_false c4
          clear c4
          obtain rfl := Option.some.inj H
          go_wp2
          repeat (go_quiet (fail); try go_wp2)
          go_ret
          exact ⟨by first | rfl | (simp; done) | (simp [*]; done), by repeat (first | exact Drawn0.refl _ | apply Drawn0.step)⟩
  · rw [if_neg c3] at H
    have c3b0 : ((l0.length : Int) == (l1.length : Int)) = false := beq_eq_false_iff_ne.mpr c3
    have c3b1 : ((l0.length : Int) != (l1.length : Int)) = true := bne_iff_ne.mpr c3
    have c3b2 : (l0.length == l1.length) = false := by first | simpa using c3 | (simp at c3 ⊢; omega)
    obtain rfl := Option.some.inj H
    go_enter Try.func22, Try.ntmps22
    go_wp2
    repeat (go_quiet (fail); try go_wp2)
    go_ret
    exact ⟨by first | rfl | (simp; done) | (simp [*]; done), by repeat (first | exact Drawn0.refl _ | apply Drawn0.step)⟩

/-! ### laws_markIntSS: function 23 -/
def laws_markIntSS.go (k : Nat) : List (List Int) → Int → Option (Int × List (List Int))
  | [], a => some (a, [])
  | s :: r, a => (laws_markIntS.f k s a).bind fun p => (laws_markIntSS.go k r p.1).bind fun q => some (q.1, p.2 :: q.2)
def laws_markIntSS.fp (k : Nat) (l0 : List (List Int)) (a1 : Int) : Option (Int × List (List Int)) := if l0.length ≤ 2000000 then laws_markIntSS.go k l0 a1 else none
theorem laws_markIntSS.mono_go (k : Nat) : ∀ l0 a1, LeO (laws_markIntSS.go k l0 a1) (laws_markIntSS.go (k + 1) l0 a1)
  | [], _ => LeO.refl _
  | s :: r, a => LeO.bind (laws_markIntS.mono s a k) (fun p => LeO.bind (laws_markIntSS.mono_go k r p.1) (fun _ => LeO.refl _))
theorem laws_markIntSS.monop : ∀ a0 a1 k, LeO (laws_markIntSS.fp k a0 a1) (laws_markIntSS.fp (k + 1) a0 a1) := fun a0 a1 k => LeO.ite (laws_markIntSS.mono_go k a0 a1) (LeO.refl _)
theorem laws_markIntSS.up {k m : Nat} (h : k ≤ m) (l0 : List (List Int)) (a1 : Int) {p : Int × List (List Int)} (hp : laws_markIntSS.fp k l0 a1 = some p) : laws_markIntSS.fp m l0 a1 = some p := by
  induction h with
  | refl => exact hp
  | step _ ih => exact laws_markIntSS.monop l0 a1 _ _ ih
/-- What the rows hold when they have been written. -/
noncomputable def laws_markIntSS.new (l0 : List (List Int)) (a1 : Int) : List (List Int) := open Classical in if h : ∃ p : Nat × (Int × List (List Int)), laws_markIntSS.fp p.1 l0 a1 = some p.2 then h.choose.2.2 else []
theorem laws_markIntSS.new_eq {k : Nat} {l0 : List (List Int)} {a1 r1 : Int} {r2 : List (List Int)} (h : laws_markIntSS.fp k l0 a1 = some (r1, r2)) : laws_markIntSS.new l0 a1 = r2 := by
  have hex : ∃ p : Nat × (Int × List (List Int)), laws_markIntSS.fp p.1 l0 a1 = some p.2 := ⟨(k, (r1, r2)), h⟩
  unfold laws_markIntSS.new
  rw [dif_pos hex]
  have h1 := laws_markIntSS.up (Nat.le_max_left hex.choose.1 k) l0 a1 hex.choose_spec
  have h2 := laws_markIntSS.up (Nat.le_max_right hex.choose.1 k) l0 a1 h
  rw [h1] at h2
  rw [Option.some.inj h2]
theorem laws_markIntSS.go_len (k : Nat) : ∀ (l : List (List Int)) (a : Int) (r1 : Int) (r2 : List (List Int)), laws_markIntSS.go k l a = some (r1, r2) → r2.length = l.length
  | [], a, r1, r2, h => by
    rw [laws_markIntSS.go] at h
    simp only [Option.some.injEq, Prod.mk.injEq] at h
    rw [← h.2]
  | s :: r, a, r1, r2, h => by
    rw [laws_markIntSS.go] at h
    obtain ⟨p, hp, h⟩ := Option.bind_eq_some_iff.1 h
    obtain ⟨q, hq, h⟩ := Option.bind_eq_some_iff.1 h
    simp only [Option.some.injEq, Prod.mk.injEq] at h
    rw [← h.2, List.length_cons, List.length_cons, laws_markIntSS.go_len k r p.1 q.1 q.2 hq]
def laws_markIntSS.f (k : Nat) (l0 : List (List Int)) (a1 : Int) : Option Int := (laws_markIntSS.fp k l0 a1).bind fun p => some p.1
theorem laws_markIntSS.mono : ∀ a0 a1 k, LeO (laws_markIntSS.f k a0 a1) (laws_markIntSS.f (k + 1) a0 a1) := fun a0 a1 k => LeO.bind (laws_markIntSS.monop a0 a1 k) (fun _ => LeO.refl _)
theorem laws_markIntSS.f_fp {k : Nat} {l0 : List (List Int)} {a1 r1 : Int} (h : laws_markIntSS.f k l0 a1 = some r1) : laws_markIntSS.fp k l0 a1 = some (r1, laws_markIntSS.new l0 a1) := by
  obtain ⟨⟨p1, p2⟩, hp, h⟩ := Option.bind_eq_some_iff.1 h
  obtain rfl := Option.some.inj h
  rw [laws_markIntSS.new_eq hp, hp]
theorem laws_markIntSS.new_len {k : Nat} {l0 : List (List Int)} {a1 r1 : Int} (h : laws_markIntSS.f k l0 a1 = some r1) : (laws_markIntSS.new l0 a1).length = l0.length := by
  have h := laws_markIntSS.f_fp h
  unfold laws_markIntSS.fp at h
  split at h
  · exact laws_markIntSS.go_len k l0 a1 _ _ h
  · cases h
set_option maxHeartbeats 4000000 in
set_option maxRecDepth 100000 in
/-- Each row of an own row of rows is written; the rows stay apart. -/
theorem laws_markIntSS.callsp (k : Nat) (P0_ : Nat → Prop) (u9000_ : Value) (l0 : List (List Int)) (a1 : Int) (r1 : Int) (r2 : List (List Int)) (w0 w : World) (hB : Below w0.heap.size w0 w) (ho0 : Kd.S (Kd.slice 3 (Kd.int .i64)) 22 w w0.heap.size P0_ u9000_ l0) (h : laws_markIntSS.fp k l0 a1 = some (r1, r2)) :
    Calls Try.prog 23 #[u9000_, .int .i64 a1] w fun e w' => e = .returned (.int .i64 r1) ∧ Kd.S (Kd.slice 3 (Kd.int .i64)) 22 w' w0.heap.size (fun k_ => (P0_ k_ ∨ w.heap.size ≤ k_)) u9000_ r2 ∧ Below w0.heap.size w0 w' ∧ Kept w w' (fun k_ => P0_ k_) := by
  obtain ⟨A, c, rfl⟩ := Kd.S_slice ho0
  unfold laws_markIntSS.fp at h
  split at h
  case isFalse => cases h
  rename_i hg
  obtain ⟨n, hn⟩ : ∃ n, n = l0.length := ⟨_, rfl⟩
  rw [← hn] at hg ho0 ⊢
  have HS0 := Aside0.mk (show Kd.S (Kd.slice 3 (Kd.int .i64)) 22 w w0.heap.size (fun k_ => (P0_ k_ ∨ w.heap.size ≤ k_)) (.slice A n c) l0 from Kd.S_mono ho0 (fun k_ hk => .inl hk))
  have HK0 := Aside0.mk (Kept.refl w (fun k_ => P0_ k_))
  have HB0 := Aside0.mk hB
  have HF := Aside0.mk h
  have HN := Aside0.mk hn
  clear h hB ho0 hn
  go_enter Try.func23, Try.ntmps23
  go_wp2
  go_loopg [1, 5] n (fun gg s1 s5 wr => ∃ (kk : Nat) (done rest r2' : List (List Int)) (cnt : Int), kk ≤ n ∧ n - kk ≤ gg ∧ s1 = .int .i64 cnt ∧ s5 = .int .i64 kk ∧ Aside0 (kk = done.length) ∧ Aside0 (n = (done ++ rest).length) ∧ Aside0 (laws_markIntSS.go k rest cnt = some (r1, r2')) ∧ Aside0 (r2 = done ++ r2') ∧ Aside0 (Kd.S (Kd.slice 3 (Kd.int .i64)) 22 wr w0.heap.size (fun k_ => (P0_ k_ ∨ w.heap.size ≤ k_)) (.slice A n c) (done ++ rest)) ∧ Aside0 (Kept w wr (fun k_ => P0_ k_)) ∧ Aside0 (Below w0.heap.size w0 wr))
  case atStart => exact ⟨0, [], l0, r2, a1, Nat.zero_le _, by omega, rfl, rfl, ⟨rfl⟩, ⟨HN.out⟩, HF, ⟨rfl⟩, HS0, HK0, HB0⟩
  case round =>
    clear HS0 HK0 HB0 HF HN
    obtain ⟨kk, done, rest, r2', cnt, hkk, hgg, rfl, rfl, HD, HL, HF, HR, HS, HK, HB⟩ := hrel
    by_cases hlt : kk < n
    · have hltz : (kk : Int) < (n : Int) := by omega
      cases rest with
      | nil => have h1 := HD.out; have h2 := HL.out; rw [List.append_nil] at h2; omega
      | cons s rest =>
        have hf := HF.out
        rw [laws_markIntSS.go] at hf
        obtain ⟨p, hp, hf⟩ := Option.bind_eq_some_iff.1 hf
        obtain ⟨q, hq, hf⟩ := Option.bind_eq_some_iff.1 hf
        obtain ⟨p1, p2⟩ := p
        obtain ⟨q1, q2⟩ := q
        simp only [Option.some.injEq, Prod.mk.injEq] at hf
        obtain ⟨rfl, rfl⟩ := hf
        have hs := HS.out
        obtain ⟨g, cap, e, _⟩ := Kd.S_form hs (by have := HL.out; omega)
        injection e with e1 e2 e3
        clear e2 e3
        subst e1
        obtain ⟨oki, cc, hcl, hM, hce, hok, hH⟩ := Kd.S_lend hs [] (kk : Int) (by omega) (by omega)
        have hge : (done ++ s :: rest).getD ((kk : Int)).toNat [] = s := by
          rw [Int.toNat_natCast, List.getD_eq_getElem?_getD, HD.out, List.getElem?_append_right (Nat.le_refl _), Nat.sub_self]
          rfl
        rw [hge] at hM
        obtain ⟨vi, rfl, hRi⟩ := hM
        have hcell : wr.cell? ⟨g, kk, none⟩ = some vi := by
          have h9 := hce 0 vi rfl
          rw [Int.toNat_natCast] at h9
          have h8 : kk * (Kd.slice 3 (Kd.int .i64)).sz + 0 = kk := Nat.mul_one kk
          rwa [h8] at h9
        have hcell0 : wr.cell? ((⟨g, 0, none⟩ : Addr).add kk) = some vi := by rw [add_plain]; exact hcell
        have HC := Aside0.mk (laws_markIntS.calls k oki vi s cnt p1 p2 w0 wr HB.out hRi hp)
        have HQ := Aside0.mk hq
        have HH := Aside0.mk (Kd.H_widen hH)
        have HOK := Aside0.mk hok
        have HWs := Aside0.mk HK.out.1
        clear hcl hce hH hok hRi hp hq hs hge HS HF HB
        go_wp2_with (go_at_call 15; refine (HC.out).mono ?_; rintro e w1 ⟨rfl, hr1, hb1, hk1⟩; have n0_ := Aside0.mk (Kept.then_ HK.out hk1 (fun k_ hk => (HOK.out k_ hk).1)); have n1_ := Aside0.mk (Kd.H_back (okp := fun k_ => (oki k_ ∨ wr.heap.size ≤ k_)) (x' := p2) (Kd.H_kept HH.out hk1 (fun k_ _ hn_ h_ => hn_ (.inl h_))) ⟨vi, rfl, hr1⟩ (fun k_ h_ => h_.elim (fun h_ => .inl h_) (fun h_ => .inr ⟨.inr (Nat.le_trans HWs.out h_), h_⟩))); have n2_ := Aside0.mk hb1; clear HK HH HC hr1 hb1 hk1; have HK := n0_; have HS := n1_; have HB := n2_; clear n0_ n1_ n2_)
        go_roundg (n - (kk + 1))
        case measure => omega
        case rel =>
          have e9 : (done ++ s :: rest).set ((kk : Int)).toNat p2 = (done ++ [p2]) ++ rest := by
            rw [Int.toNat_natCast, HD.out, List.set_append_right _ _ (Nat.le_refl _), Nat.sub_self, List.set_cons_zero, List.append_assoc]
            rfl
          rw [e9] at HS
          exact ⟨kk + 1, done ++ [p2], rest, q2, p1, by omega, by omega, rfl, by go_num, ⟨by rw [List.length_append, List.length_singleton, HD.out]⟩, ⟨by have := HL.out; simp at this ⊢; omega⟩, HQ, ⟨by rw [HR.out, List.append_assoc]; rfl⟩, HS, HK, HB⟩
    · have hltz : ¬ (kk : Int) < (n : Int) := by omega
      obtain rfl : kk = n := by omega
      have hr0 : rest = [] := by
        have h1 := HD.out
        have h2 := HL.out
        rw [List.length_append] at h2
        exact List.eq_nil_of_length_eq_zero (by omega)
      subst hr0
      have hf := HF.out
      rw [laws_markIntSS.go] at hf
      simp only [Option.some.injEq, Prod.mk.injEq] at hf
      obtain ⟨rfl, rfl⟩ := hf
      rw [List.append_nil] at HS HR
      obtain rfl := HR.out
      go_wp2
      go_ret
      exact ⟨rfl, HS.out, HB.out, HK.out⟩
theorem laws_markIntSS.handed (k : Nat) (P0_ : Nat → Prop) (u9000_ : Value) (l0 : List (List Int)) (a1 : Int) (r1 : Int) (w0 w : World) (hB : Below w0.heap.size w0 w) (ho0 : Kd.S (Kd.slice 3 (Kd.int .i64)) 22 w w0.heap.size P0_ u9000_ l0) (h : laws_markIntSS.f k l0 a1 = some r1) :
    Calls Try.prog 23 #[u9000_, .int .i64 a1] w fun e w' => e = .returned (.int .i64 r1) ∧ Kd.S (Kd.slice 3 (Kd.int .i64)) 22 w' w0.heap.size (fun k_ => (P0_ k_ ∨ w.heap.size ≤ k_)) u9000_ (laws_markIntSS.new l0 a1) ∧ Below w0.heap.size w0 w' ∧ Kept w w' (fun k_ => P0_ k_) :=
  laws_markIntSS.callsp k P0_ u9000_ l0 a1 r1 _ w0 w hB ho0 (laws_markIntSS.f_fp h)
/-- Two rows of rows of one kind, one elder than the other: none of the one's rows is one of the other's. -/
def Kd.Two {α : Type} (d : Kd α) (e : Nat) (w : World) (base : Nat) (u v4 : Value) (t4 : List α) (v7 : Value) (t7 : List α) : Prop :=
  ∃ N, Kd.S d e w base (fun k_ => some k_ ≠ u.ownBlock ∧ k_ < N) v4 t4 ∧ Kd.S d e w base (fun k_ => some k_ ≠ u.ownBlock ∧ N ≤ k_) v7 t7
theorem Kd.Two_mk {α : Type} {d : Kd α} {e base : Nat} {W w1 : World} {u v4 v7 : Value} {t4 t7 : List α} (h4 : Kd.S d e w1 base (fun k_ => some k_ ≠ u.ownBlock ∧ k_ < W.heap.size) v4 t4) (h7 : Kd.S d e w1 W.heap.size (fun _ => True) v7 t7) (hlt : ∀ k_, u.ownBlock = some k_ → k_ < W.heap.size) (hbase : base ≤ W.heap.size) : Kd.Two d e w1 base u v4 t4 v7 t7 :=
  ⟨W.heap.size, h4, Kd.S_lower (Kd.S_mono (Kd.S_bound h7) (fun k_ hk => ⟨fun e_ => Nat.lt_irrefl k_ (Nat.lt_of_lt_of_le (hlt k_ e_.symm) hk.2.1), hk.2.1⟩)) hbase⟩
theorem Kd.Two_below {α : Type} {d : Kd α} {e base : Nat} {w w1 : World} {u v4 v7 : Value} {t4 t7 : List α} (h : Kd.Two d e w base u v4 t4 v7 t7) (hb : Below w.heap.size w w1) : Kd.Two d e w1 base u v4 t4 v7 t7 := by
  obtain ⟨N, h4, h7⟩ := h
  exact ⟨N, Kd.S_below h4 hb, Kd.S_below h7 hb⟩
theorem Kd.Two_alloc {α : Type} {d : Kd α} {e base : Nat} {w : World} {u v4 v7 : Value} {t4 t7 : List α} (h : Kd.Two d e w base u v4 t4 v7 t7) (o : Obj) : Kd.Two d e (w.alloc o) base u v4 t4 v7 t7 := Kd.Two_below h (below_alloc (Below.refl _ _) o)
theorem Kd.Two_drew {α : Type} {d : Kd α} {e base : Nat} {w : World} {u v4 v7 : Value} {t4 t7 : List α} (h : Kd.Two d e w base u v4 t4 v7 t7) : Kd.Two d e w.drew base u v4 t4 v7 t7 := Kd.Two_below h (below_drew (Below.refl _ _))
theorem Kd.Two_drewN {α : Type} {d : Kd α} {e base : Nat} {w : World} {u v4 v7 : Value} {t4 t7 : List α} (h : Kd.Two d e w base u v4 t4 v7 t7) (m : Nat) : Kd.Two d e (w.drewN m) base u v4 t4 v7 t7 := Kd.Two_below h (pw_below_drewN (Below.refl _ _) m)
theorem Kd.Two_kept {α : Type} {d : Kd α} {e base : Nat} {w w1 : World} {S : Nat → Prop} {u v4 v7 : Value} {t4 t7 : List α} (h : Kd.Two d e w base u v4 t4 v7 t7) (hk : Kept w w1 S) (hS : ∀ k_, S k_ → some k_ = u.ownBlock) : Kd.Two d e w1 base u v4 t4 v7 t7 := by
  obtain ⟨N, h4, h7⟩ := h
  exact ⟨N, Kd.S_step h4 (fun k_ ho hlt => hk.2 k_ hlt (fun hs => ho.1 (hS k_ hs))), Kd.S_step h7 (fun k_ ho hlt => hk.2 k_ hlt (fun hs => ho.1 (hS k_ hs)))⟩


/-! ### laws_heldIntSS: function 24 -/
def laws_heldIntSS.l0 : Nat → List (List Int) → Int → Int → Option (Int)
  | 0, _, _, _ => none
  | k + 1, x0, x1, x5 => if x5 < (x0.length : Int) then (if 0 ≤ x5 then ((laws_heldIntS.f k (rd_L2 x0 x5) x1).bind fun t339 => (if t339 < 0 then (some (-1)) else (laws_heldIntSS.l0 k x0 t339 (wrap64 (x5 + 1))))) else (none)) else (some x1)
def laws_heldIntSS.f (k : Nat) (l0 : List (List Int)) (a1 : Int) : Option (Int) := laws_heldIntSS.l0 k l0 a1 0
theorem laws_heldIntSS.mono_l : ∀ k, (∀ y0 y1 y2, LeO (laws_heldIntSS.l0 k y0 y1 y2) (laws_heldIntSS.l0 (k + 1) y0 y1 y2))
  | 0 => fun _ _ _ r h => by simp [laws_heldIntSS.l0] at h
  | k + 1 => by
    have ih0 := laws_heldIntSS.mono_l k
    · intro y0 y1 y2
      unfold laws_heldIntSS.l0
      repeat' first
      | (with_reducible exact ih0 _ _ _)
      | (with_reducible exact laws_heldIntS.mono _ _ _)
      | (with_reducible exact LeO.refl _)
      | (with_reducible exact LeO.none _)
      | (with_reducible refine LeO.ite ?_ ?_)
      | (with_reducible refine LeO.bind ?_ (fun _ => ?_))
      | exact ih0 _ _ _
      | exact laws_heldIntS.mono _ _ _
      | exact LeO.none _
      | refine LeO.ite ?_ ?_
      | refine LeO.bind ?_ (fun _ => ?_)
theorem laws_heldIntSS.mono : ∀ a0 a1 k, LeO (laws_heldIntSS.f k a0 a1) (laws_heldIntSS.f (k + 1) a0 a1) := by
  intro a0 a1 k
  have ih0 := laws_heldIntSS.mono_l k
  unfold laws_heldIntSS.f
  repeat' first
      | (with_reducible exact ih0 _ _ _)
      | (with_reducible exact laws_heldIntS.mono _ _ _)
      | (with_reducible exact LeO.refl _)
      | (with_reducible exact LeO.none _)
      | (with_reducible refine LeO.ite ?_ ?_)
      | (with_reducible refine LeO.bind ?_ (fun _ => ?_))
      | exact ih0 _ _ _
      | exact laws_heldIntS.mono _ _ _
      | exact LeO.none _
      | refine LeO.ite ?_ ?_
      | refine LeO.bind ?_ (fun _ => ?_)
set_option maxHeartbeats 8000000 in
set_option maxRecDepth 100000 in
theorem laws_heldIntSS.calls (k : Nat) (A0 : Option Addr) (c0 : Nat) (l0 : List (List Int)) (a1 : Int) (r : Int) (w : World) (hr0 : Kd.C (Kd.slice 3 (Kd.int .i64)) w A0 l0.length l0) (hc0 : l0.length ≤ c0) (h : laws_heldIntSS.f k l0 a1 = some r) :
    Calls Try.prog 24 #[.slice A0 l0.length c0, .int .i64 a1] w fun e w' => e = .returned (.int .i64 r) ∧ Drawn0 w w' := by
  have HR0 := Aside0.mk hr0
  have HC0 := Aside0.mk hc0
  clear hr0 hc0
  have H : (laws_heldIntSS.l0 k l0 a1 0) = some r := h
  clear h
  have H' := Aside0.mk H
  clear H
  go_enter Try.func24, Try.ntmps24
  go_wp2
  go_loopg [1, 5] k (fun kq v1 v5 w' => ∃ (x1_1 : Int) (x5_1 : Int), v1 = .int .i64 x1_1 ∧ v5 = .int .i64 x5_1 ∧ Aside0 (laws_heldIntSS.l0 kq l0 x1_1 x5_1 = some r) ∧ Aside0 (kq ≤ k) ∧ Drawn0 w w')
  case atStart => exact ⟨(a1), (0), (by first | rfl | (simp; done) | (simp [*]; done)), (by first | rfl | (simp; done) | (simp [*]; done)), H', ⟨Nat.le_refl _⟩, by repeat (first | exact Drawn0.refl _ | apply Drawn0.step)⟩
  case round =>
    clear H'
    try clear c2
    try clear p2
    obtain ⟨x1_1, x5_1, rfl, rfl, HA, HK1, ⟨m1, rfl⟩⟩ := hrel
    cases gk with
    | zero => exact absurd HA.out (by simp [laws_heldIntSS.l0])
    | succ k1 =>
      have H := HA.out
      clear HA
      simp only [laws_heldIntSS.l0] at H
      by_cases c3 : x5_1 < (l0.length : Int)
      · rw [if_pos c3] at H
        have c3b0 : decide (x5_1 < (l0.length : Int)) = true := decide_eq_true c3
        clear c3
        by_cases c4 : 0 ≤ x5_1
        · rw [if_pos c4] at H
          have c4b0 : decide (0 ≤ x5_1) = true := decide_eq_true c4
          clear c4
          replace H := Option.bind_eq_some_iff.mp H
          obtain ⟨t339, A50, H⟩ := H
          replace H : (if t339 < 0 then (some (-1)) else (laws_heldIntSS.l0 k1 l0 t339 (wrap64 (x5_1 + 1)))) = some r := H
          have A5 := Aside0.mk A50
          clear A50
          by_cases c6 : t339 < 0
          · rw [if_pos c6] at H
            have c6b0 : decide (t339 < 0) = true := decide_eq_true c6
            clear c6
            obtain rfl := Option.some.inj H
            have p338 : 0 ≤ (x5_1 : Int) := of_decide_eq_true (by first | (with_reducible assumption) | assumption)
            have q338 : x5_1 < (l0.length : Int) := of_decide_eq_true (by first | (with_reducible assumption) | assumption)
            obtain ⟨ad338, A338_0, c338_0, e338, hx338_0, hl338_0, hi338_0⟩ := at_L2 HR0.out x5_1 p338 q338
            cases e338
            have HR338_0 := Aside0.mk hi338_0
            have HC338_0 := Aside0.mk hl338_0
            clear hi338_0 hl338_0
            replace p338 := eq_true p338
            replace q338 := eq_true q338
            go_wp2_with (first | ((with_reducible refine gate_callee (f := 16) rfl ?_); refine goesL_ (some 17) rfl rfl Try.func16 (by kernel_rfl) rfl #[.slice A338_0 (rd_L2 l0 x5_1).length c338_0, .int .i64 x1_1] rfl (by (try simp only [List.map_toArray, List.map_cons, List.map_nil]); first | done | rfl | (simp only [List.length_drop, List.length_take]; rfl)) ?_; (with_reducible refine (laws_heldIntS.calls k1 _ _ (rd_L2 l0 x5_1) x1_1 t339 _ ?side1 ?side2 A5.out).mono ?_); (case side1 => repeat (first | exact HR338_0.out | (with_reducible refine Kd.C_alloc ?_ _) | (with_reducible refine Kd.C_drewN ?_ _) | (with_reducible refine Kd.C_drew ?_))); (case side2 => exact HC338_0.out); rintro e w' ⟨rfl, ⟨nd, rfl⟩⟩; refine ⟨_, rfl, ?_⟩))
            go_ret
            exact ⟨by first | rfl | (simp; done) | (simp [*]; done), by repeat (first | exact Drawn0.refl _ | apply Drawn0.step)⟩
          · rw [if_neg c6] at H
            have c6b0 : decide (t339 < 0) = false := decide_eq_false c6
            clear c6
            have H' := Aside0.mk H
            clear H
            have p338 : 0 ≤ (x5_1 : Int) := of_decide_eq_true (by first | (with_reducible assumption) | assumption)
            have q338 : x5_1 < (l0.length : Int) := of_decide_eq_true (by first | (with_reducible assumption) | assumption)
            obtain ⟨ad338, A338_0, c338_0, e338, hx338_0, hl338_0, hi338_0⟩ := at_L2 HR0.out x5_1 p338 q338
            cases e338
            have HR338_0 := Aside0.mk hi338_0
            have HC338_0 := Aside0.mk hl338_0
            clear hi338_0 hl338_0
            replace p338 := eq_true p338
            replace q338 := eq_true q338
            go_wp2_with (first | ((with_reducible refine gate_callee (f := 16) rfl ?_); refine goesL_ (some 17) rfl rfl Try.func16 (by kernel_rfl) rfl #[.slice A338_0 (rd_L2 l0 x5_1).length c338_0, .int .i64 x1_1] rfl (by (try simp only [List.map_toArray, List.map_cons, List.map_nil]); first | done | rfl | (simp only [List.length_drop, List.length_take]; rfl)) ?_; (with_reducible refine (laws_heldIntS.calls k1 _ _ (rd_L2 l0 x5_1) x1_1 t339 _ ?side1 ?side2 A5.out).mono ?_); (case side1 => repeat (first | exact HR338_0.out | (with_reducible refine Kd.C_alloc ?_ _) | (with_reducible refine Kd.C_drewN ?_ _) | (with_reducible refine Kd.C_drew ?_))); (case side2 => exact HC338_0.out); rintro e w' ⟨rfl, ⟨nd, rfl⟩⟩; refine ⟨_, rfl, ?_⟩))
            go_roundg k1
            case measure => have := HK1.out; omega
            case rel => exact ⟨(t339), (wrap64 (x5_1 + 1)), (by first | rfl | (simp; done) | (simp [*]; done)), (by first | rfl | (simp; done) | (simp [*]; done)), H', ⟨by have := HK1.out; omega⟩, by repeat (first | exact Drawn0.refl _ | apply Drawn0.step)⟩
        · rw [if_neg c4] at H
          exact absurd H (by simp)
      · rw [if_neg c3] at H
        have c3b0 : decide (x5_1 < (l0.length : Int)) = false := decide_eq_false c3
        clear c3
        obtain rfl := Option.some.inj H
        go_wp2
        go_ret
        exact ⟨by first | rfl | (simp; done) | (simp [*]; done), by repeat (first | exact Drawn0.refl _ | apply Drawn0.step)⟩

end Go.Proofs.Ythjnmfacdlgbbaa.P
