-- Functions and contracts: laid by a program of mine out of the translation. Not trusted: Lean checks it.
import Derived.Test.YtadlpnejkkblfaaPx0
import Derived.Test.YtadlpnejkkblfaaPx2
import Derived.Test.YtadlpnejkkblfaaPx3
import Derived.Test.YtadlpnejkkblfaaPx4
namespace Go.Proofs.Ytadlpnejkkblfaa.P
open Go.RowKit Go.Proofs.YtadlpnejkkblfaaW.PrintWords Go.Proofs.YtadlpnejkkblfaaW.PrintLast Go.Proofs.YtadlpnejkkblfaaW.PrintMore
attribute [local go_sem] max2_int min2_int max_two min_two max_three min_three max_four min_four   -- for this text's walks alone
set_option linter.unusedVariables false
set_option linter.unusedSimpArgs false

/-! ### spec_gmWins: function 66 -/
mutual
def spec_gmWins.l0 : Nat → List (List Int) → List Bool → Int → Int → Option (List Bool)
  | 0, _, _, _, _ => none
  | k + 1, x1, x5, x15, x16 => if x16 < x15 then (spec_gmWins.l1 k x1 x5 x16 x15 x16 x1 (x1.length : Int) 0) else (some x5)
def spec_gmWins.l1 : Nat → List (List Int) → List Bool → Int → Int → Int → List (List Int) → Int → Int → Option (List Bool)
  | 0, _, _, _, _, _, _, _, _ => none
  | k + 1, x1, x5, x6, x15, x16, x19, x20, x21 => if x21 < x20 then (if 0 ≤ x21 then (if x21 < (x19.length : Int) then ((spec_voBits.f k (rd_L1 x19 x21)).bind fun t202 => (if 0 ≤ x6 then (if x6 < (x5.length : Int) then (if rdOf false x5 x6 = true then (spec_gmWins.l1 k x1 (x5.set (x6 : Int).toNat true) x6 x15 x16 x19 x20 (wrap64 (x21 + 1))) else (spec_gmWins.l1 k x1 (x5.set (x6 : Int).toNat ((Go.bits .and .i64 x6 t202) == t202)) x6 x15 x16 x19 x20 (wrap64 (x21 + 1)))) else (none)) else (none))) else (none)) else (none)) else (spec_gmWins.l0 k x1 x5 x15 (wrap64 (x16 + 1)))
end
def spec_gmWins.f (k : Nat) (a0 : Int) (l1 : List (List Int)) : Option (List Bool) := (spec_voAll.f a0).bind fun t197 => (if 0 ≤ (wrap64 (t197 + 1)) then (if (wrap64 (t197 + 1) : Int).toNat ≤ 281474976710656 then ((some (List.replicate (wrap64 (t197 + 1) : Int).toNat false : List Bool)).bind fun y198 => (spec_gmWins.l0 k l1 y198 (y198.length : Int) 0)) else (none)) else (none))
theorem spec_gmWins.mono_l : ∀ k, (∀ y0 y1 y2 y3, LeO (spec_gmWins.l0 k y0 y1 y2 y3) (spec_gmWins.l0 (k + 1) y0 y1 y2 y3)) ∧ (∀ y0 y1 y2 y3 y4 y5 y6 y7, LeO (spec_gmWins.l1 k y0 y1 y2 y3 y4 y5 y6 y7) (spec_gmWins.l1 (k + 1) y0 y1 y2 y3 y4 y5 y6 y7))
  | 0 => ⟨fun _ _ _ _ r h => by simp [spec_gmWins.l0] at h, fun _ _ _ _ _ _ _ _ r h => by simp [spec_gmWins.l1] at h⟩
  | k + 1 => by
    obtain ⟨ih0, ih1⟩ := spec_gmWins.mono_l k
    refine ⟨?_, ?_⟩
    · intro y0 y1 y2 y3
      unfold spec_gmWins.l0
      repeat' first
      | (with_reducible exact ih0 _ _ _ _)
      | (with_reducible exact ih1 _ _ _ _ _ _ _ _)
      | (with_reducible exact spec_voBits.mono _ _)
      | (with_reducible exact LeO.refl _)
      | (with_reducible exact LeO.none _)
      | (with_reducible refine LeO.ite ?_ ?_)
      | (with_reducible refine LeO.bind ?_ (fun _ => ?_))
      | exact ih0 _ _ _ _
      | exact ih1 _ _ _ _ _ _ _ _
      | exact spec_voBits.mono _ _
      | exact LeO.none _
      | refine LeO.ite ?_ ?_
      | refine LeO.bind ?_ (fun _ => ?_)
    · intro y0 y1 y2 y3 y4 y5 y6 y7
      unfold spec_gmWins.l1
      repeat' first
      | (with_reducible exact ih0 _ _ _ _)
      | (with_reducible exact ih1 _ _ _ _ _ _ _ _)
      | (with_reducible exact spec_voBits.mono _ _)
      | (with_reducible exact LeO.refl _)
      | (with_reducible exact LeO.none _)
      | (with_reducible refine LeO.ite ?_ ?_)
      | (with_reducible refine LeO.bind ?_ (fun _ => ?_))
      | exact ih0 _ _ _ _
      | exact ih1 _ _ _ _ _ _ _ _
      | exact spec_voBits.mono _ _
      | exact LeO.none _
      | refine LeO.ite ?_ ?_
      | refine LeO.bind ?_ (fun _ => ?_)
theorem spec_gmWins.mono : ∀ a0 a1 k, LeO (spec_gmWins.f k a0 a1) (spec_gmWins.f (k + 1) a0 a1) := by
  intro a0 a1 k
  obtain ⟨ih0, ih1⟩ := spec_gmWins.mono_l k
  unfold spec_gmWins.f
  repeat' first
      | (with_reducible exact ih0 _ _ _ _)
      | (with_reducible exact ih1 _ _ _ _ _ _ _ _)
      | (with_reducible exact spec_voBits.mono _ _)
      | (with_reducible exact LeO.refl _)
      | (with_reducible exact LeO.none _)
      | (with_reducible refine LeO.ite ?_ ?_)
      | (with_reducible refine LeO.bind ?_ (fun _ => ?_))
      | exact ih0 _ _ _ _
      | exact ih1 _ _ _ _ _ _ _ _
      | exact spec_voBits.mono _ _
      | exact LeO.none _
      | refine LeO.ite ?_ ?_
      | refine LeO.bind ?_ (fun _ => ?_)
set_option maxHeartbeats 8000000 in
set_option maxRecDepth 100000 in
theorem spec_gmWins.calls (k : Nat) (a0 : Int) (A1 : Option Addr) (c1 : Nat) (l1 : List (List Int)) (r : List Bool) (w : World) (hr1 : Kd.C (Kd.slice 3 (Kd.int .i64)) w A1 l1.length l1) (hc1 : l1.length ≤ c1) (h : spec_gmWins.f k a0 l1 = some r) :
    Calls Try.prog 66 #[.int .i64 a0, .slice A1 l1.length c1] w fun e w' => ∃ v0_ : Value, e = .returned (v0_) ∧ Kd.R Kd.bool 4 w' w.heap.size (fun _ => True) v0_ r ∧ Below w.heap.size w w' := by
  have HR1 := Aside0.mk hr1
  have HC1 := Aside0.mk hc1
  clear hr1 hc1
  have HB := Aside0.mk (Below.refl w.heap.size w)
  have H : ((spec_voAll.f a0).bind fun t197 => (if 0 ≤ (wrap64 (t197 + 1)) then (if (wrap64 (t197 + 1) : Int).toNat ≤ 281474976710656 then ((some (List.replicate (wrap64 (t197 + 1) : Int).toNat false : List Bool)).bind fun y198 => (spec_gmWins.l0 k l1 y198 (y198.length : Int) 0)) else (none)) else (none))) = some r := h
  clear h
  replace H := Option.bind_eq_some_iff.mp H
  obtain ⟨t197, A30, H⟩ := H
  replace H : (if 0 ≤ (wrap64 (t197 + 1)) then (if (wrap64 (t197 + 1) : Int).toNat ≤ 281474976710656 then ((some (List.replicate (wrap64 (t197 + 1) : Int).toNat false : List Bool)).bind fun y198 => (spec_gmWins.l0 k l1 y198 (y198.length : Int) 0)) else (none)) else (none)) = some r := H
  have A3 := Aside0.mk A30
  clear A30
  obtain ⟨ji4, hji4⟩ : ∃ j_ : Int, (wrap64 (t197 + 1)) = j_ := ⟨_, rfl⟩
  replace H : (if 0 ≤ (ji4) then (if (ji4 : Int).toNat ≤ 281474976710656 then ((some (List.replicate (ji4 : Int).toNat false : List Bool)).bind fun y198 => (spec_gmWins.l0 k l1 y198 (y198.length : Int) 0)) else (none)) else (none)) = some r := by first | (rw [hji4] at H; exact H) | (simp only [hji4] at H ⊢; exact H)
  (try rw [hji4] at A3)
  have hji4w : (IntKind.i64.wrap (t197 + 1)) = ji4 := (i64_w _).trans hji4
  by_cases c5 : 0 ≤ (ji4)
  · rw [if_pos c5] at H
    have c5b0 := eq_true c5
    have c5b1 : decide (0 ≤ (ji4)) = true := decide_eq_true c5
    clear c5
    by_cases c6 : (ji4 : Int).toNat ≤ 281474976710656
    · rw [if_pos c6] at H
      have c6b0 := eq_true c6
      have c6b1 : decide ((ji4 : Int).toNat ≤ 281474976710656) = true := decide_eq_true c6
      clear c6
      obtain ⟨y198, hy198⟩ : ∃ y_ : List Bool, y_ = (List.replicate (ji4 : Int).toNat false) := ⟨_, rfl⟩
      replace H : (spec_gmWins.l0 k l1 y198 (y198.length : Int) 0) = some r := by first | (rw [hy198]; with_reducible exact H) | (have H2_ := (Option.bind_some _ _).symm.trans H; rw [hy198]; with_reducible exact H2_) | (have H2_ := (Option.bind_some _ _).symm.trans H; with_reducible exact H2_) | with_reducible exact H | (rw [hy198]; exact H) | exact H
      have Ny198 := Aside0.mk hy198
      clear hy198
      have H' := Aside0.mk H
      clear H
      go_enter Try.func66, Try.ntmps66
      go_wp2_with (first | ((with_reducible refine gate_callee (f := 51) rfl ?_); refine goesL_ (some 11) rfl rfl Try.func51 (by kernel_rfl) rfl #[.int .i64 a0] rfl (by (try simp only [List.map_toArray, List.map_cons, List.map_nil]); first | done | rfl | (simp only [List.length_drop, List.length_take]; rfl)) ?_; (with_reducible refine (spec_voAll.calls a0 t197 _ A3.out).mono ?_); rintro e w' ⟨rfl, ⟨nd, rfl⟩⟩; refine ⟨_, rfl, ?_⟩) | ((with_reducible refine gate_dst (N := 13) rfl ?_); refine Kd.R_make Kd.bool _ 4 rfl (N := 13) rfl 54 _ _ rfl ji4 rfl rfl Try.underlying54 (.bool false) 1 info4 rfl (by decide) (by omega) false (ok := fun _ => True) (okp := fun _ => True) rfl (fun _ hk => hk) trivial (of_decide_eq_true (by first | (with_reducible assumption) | assumption)) (Nat.le_trans (Nat.mul_le_mul_right _ (of_decide_eq_true (by first | (with_reducible assumption) | assumption) : ji4.toNat ≤ 281474976710656)) (by omega)) (Below.refl _ _) (Nat.le_refl _) ?_; intro v199 w7 ho8 hb hg_ hnew_; clear hg_ hnew_; (first | rw [← Ny198.out] at ho8 | (simp only [Int.reduceToNat] at ho8; rw [← Ny198.out] at ho8)); have n0_ := Aside0.mk (Kd.R_lower ho8 (below_size (by repeat (first | (with_reducible first | exact HB.out | apply below_alloc | apply pw_below_drewN | apply below_drew1) | exact HB.out)))); have n1_ := Aside0.mk (below_step (by repeat (first | (with_reducible first | exact HB.out | apply below_alloc | apply pw_below_drewN | apply below_drew1) | exact HB.out)) hb); clear HB; have HO200 := n0_; have HB := n1_; clear n0_ n1_; clear hb ho8; obtain ⟨Ao9, co9, eo9⟩ := Kd.R_slice HO200.out; subst eo9))
      go_loopg [16] k (fun kq v16 w' => ∃ (x5_1 : List Bool) (x16_1 : Int), v16 = .int .i64 x16_1 ∧ Aside0 (spec_gmWins.l0 kq l1 x5_1 (y198.length : Int) x16_1 = some r) ∧ Aside0 (kq ≤ k) ∧ Aside0 (Kd.R Kd.bool 4 w' w.heap.size (fun _ => True) (.slice Ao9 y198.length co9) x5_1) ∧ Aside0 (Below w.heap.size w w'))
      case atStart => exact ⟨(y198), (0), (by first | rfl | (simp; done) | (simp [*]; done)), H', ⟨Nat.le_refl _⟩, ⟨by (with_reducible repeat (first | apply Kd.R_alloc | apply Kd.R_drewN | apply Kd.R_drew)); exact HO200.out⟩, ⟨by repeat (first | (with_reducible first | exact HB.out | apply below_alloc | apply pw_below_drewN | apply below_drew1) | exact HB.out)⟩⟩
      case round =>
        clear H'
        try clear c1
        try clear p2
        try clear c5
        try clear c5b0
        try clear c5b1
        try clear c6
        try clear c6b0
        try clear c6b1
        try clear p6
        obtain ⟨x5_1, x16_1, rfl, HA, HK1, HO_5, HB⟩ := hrel
        have hl5_1 := (Kd.R_reads' HO_5.out).1
        rw [hl5_1] at HO_5
        (try simp only [hl5_1])
        cases gk with
        | zero => exact absurd HA.out (by simp [spec_gmWins.l0])
        | succ k1 =>
          have H := HA.out
          clear HA
          simp only [spec_gmWins.l0] at H
          by_cases c10 : x16_1 < (y198.length : Int)
          · rw [if_pos c10] at H
            have c10b0 : decide (x16_1 < (y198.length : Int)) = true := decide_eq_true c10
            clear c10
            (try have c10bh := c10b0)
            (try simp only [hl5_1] at c10bh)
            have H' := Aside0.mk H
            clear H
            go_wp2
            go_loopg [21] k1 (fun kq v21 w' => ∃ (x5_2 : List Bool) (x21_2 : Int), v21 = .int .i64 x21_2 ∧ Aside0 (spec_gmWins.l1 kq l1 x5_2 x16_1 (y198.length : Int) x16_1 l1 (l1.length : Int) x21_2 = some r) ∧ Aside0 (kq ≤ k1) ∧ Aside0 (Kd.R Kd.bool 4 w' w.heap.size (fun _ => True) (.slice Ao9 x5_1.length co9) x5_2) ∧ Aside0 (Below w.heap.size w w'))
            case atStart => exact ⟨(x5_1), (0), (by first | rfl | (simp; done) | (simp [*]; done)), H', ⟨Nat.le_refl _⟩, ⟨by (try simp only [hl5_1]); (with_reducible repeat (first | apply Kd.R_alloc | apply Kd.R_drewN | apply Kd.R_drew)); exact HO_5.out⟩, ⟨by repeat (first | (with_reducible first | exact HB.out | apply below_alloc | apply pw_below_drewN | apply below_drew1) | exact HB.out)⟩⟩
            case round =>
              clear H'
              try clear c1
              try clear p2
              try clear c5
              try clear c5b0
              try clear c5b1
              try clear c6
              try clear c6b0
              try clear c6b1
              try clear p6
              try clear c10
              try clear c10b0
              try clear p2
              try clear p6
              obtain ⟨x5_2, x21_2, rfl, HA, HK2, HO_5, HB⟩ := hrel
              have hl5_2 := (Kd.R_reads' HO_5.out).1
              rw [hl5_2] at HO_5
              (try simp only [hl5_2])
              cases gk with
              | zero => exact absurd HA.out (by simp [spec_gmWins.l1])
              | succ k2 =>
                have H := HA.out
                clear HA
                simp only [spec_gmWins.l1] at H
                by_cases c11 : x21_2 < (l1.length : Int)
                · rw [if_pos c11] at H
                  have c11b0 : decide (x21_2 < (l1.length : Int)) = true := decide_eq_true c11
                  clear c11
                  (try have c11bh := c11b0)
                  (try simp only [hl5_1] at c11bh)
                  (try simp only [hl5_2] at c11bh)
                  by_cases c12 : 0 ≤ x21_2
                  · rw [if_pos c12] at H
                    have c12b0 : decide (0 ≤ x21_2) = true := decide_eq_true c12
                    clear c12
                    (try have c12bh := c12b0)
                    (try simp only [hl5_1] at c12bh)
                    (try simp only [hl5_2] at c12bh)
                    by_cases c13 : x21_2 < (l1.length : Int)
                    · rw [if_pos c13] at H
                      have c13b0 : decide (x21_2 < (l1.length : Int)) = true := decide_eq_true c13
                      clear c13
                      (try have c13bh := c13b0)
                      (try simp only [hl5_1] at c13bh)
                      (try simp only [hl5_2] at c13bh)
                      replace H := Option.bind_eq_some_iff.mp H
                      obtain ⟨t202, A140, H⟩ := H
                      replace H : (if 0 ≤ x16_1 then (if x16_1 < (x5_2.length : Int) then (if rdOf false x5_2 x16_1 = true then (spec_gmWins.l1 k2 l1 (x5_2.set (x16_1 : Int).toNat true) x16_1 (y198.length : Int) x16_1 l1 (l1.length : Int) (wrap64 (x21_2 + 1))) else (spec_gmWins.l1 k2 l1 (x5_2.set (x16_1 : Int).toNat ((Go.bits .and .i64 x16_1 t202) == t202)) x16_1 (y198.length : Int) x16_1 l1 (l1.length : Int) (wrap64 (x21_2 + 1)))) else (none)) else (none)) = some r := H
                      have A14 := Aside0.mk A140
                      clear A140
                      by_cases c15 : 0 ≤ x16_1
                      · rw [if_pos c15] at H
                        have c15b0 : decide (0 ≤ x16_1) = true := decide_eq_true c15
                        clear c15
                        (try have c15bh := c15b0)
                        (try simp only [hl5_1] at c15bh)
                        (try simp only [hl5_2] at c15bh)
                        by_cases c16 : x16_1 < (x5_2.length : Int)
                        · rw [if_pos c16] at H
                          have c16b0 : decide (x16_1 < (x5_2.length : Int)) = true := decide_eq_true c16
                          clear c16
                          (try have c16bh := c16b0)
                          (try simp only [hl5_1] at c16bh)
                          (try simp only [hl5_2] at c16bh)
                          obtain ⟨bq17, hbq17⟩ : ∃ b_ : Bool, b_ = (rdOf false x5_2 x16_1) := ⟨_, rfl⟩
                          replace H : (if bq17 = true then (spec_gmWins.l1 k2 l1 (x5_2.set (x16_1 : Int).toNat true) x16_1 (y198.length : Int) x16_1 l1 (l1.length : Int) (wrap64 (x21_2 + 1))) else (spec_gmWins.l1 k2 l1 (x5_2.set (x16_1 : Int).toNat ((Go.bits .and .i64 x16_1 t202) == t202)) x16_1 (y198.length : Int) x16_1 l1 (l1.length : Int) (wrap64 (x21_2 + 1)))) = some r := by rw [← hbq17] at H; exact H
                          have Nbq17 := Aside0.mk hbq17
                          clear hbq17
                          by_cases c18 : bq17 = true
                          · subst c18
                            have H1 : (spec_gmWins.l1 k2 l1 (x5_2.set (x16_1 : Int).toNat true) x16_1 (y198.length : Int) x16_1 l1 (l1.length : Int) (wrap64 (x21_2 + 1))) = some r := by rw [if_pos rfl] at H; exact H
                            clear H
                            have H := H1
                            clear H1
                            obtain ⟨y204, hy204⟩ : ∃ y_ : List Bool, y_ = (x5_2.set (x16_1 : Int).toNat true) := ⟨_, rfl⟩
                            replace H : (spec_gmWins.l1 k2 l1 y204 x16_1 (y198.length : Int) x16_1 l1 (l1.length : Int) (wrap64 (x21_2 + 1))) = some r := by first | (rw [hy204]; with_reducible exact H) | (have H2_ := (Option.bind_some _ _).symm.trans H; rw [hy204]; with_reducible exact H2_) | (have H2_ := (Option.bind_some _ _).symm.trans H; with_reducible exact H2_) | with_reducible exact H | (rw [hy204]; exact H) | exact H
                            have Ny204 := Aside0.mk hy204
                            clear hy204
                            have H' := Aside0.mk H
                            clear H
                            have p201 : 0 ≤ (x21_2 : Int) := of_decide_eq_true (by first | (with_reducible assumption) | assumption)
                            have q201 : x21_2 < (l1.length : Int) := of_decide_eq_true (by first | (with_reducible assumption) | assumption)
                            obtain ⟨ad201, A201_0, c201_0, e201, hx201_0, hl201_0, hi201_0⟩ := at_L1 HR1.out x21_2 p201 q201
                            cases e201
                            replace hx201_0 := (HB.out.cell (World.block_lt_of_cell? w _ hx201_0)).trans hx201_0
                            have HR201_0 := Aside0.mk hi201_0
                            have HC201_0 := Aside0.mk hl201_0
                            clear hi201_0 hl201_0
                            replace p201 := eq_true p201
                            replace q201 := eq_true q201
                            go_wp2_with (first | ((with_reducible refine gate_callee (f := 42) rfl ?_); refine goesL_ (some 26) rfl rfl Try.func42 (by kernel_rfl) rfl #[.slice A201_0 (rd_L1 l1 x21_2).length c201_0] rfl (by (try simp only [List.map_toArray, List.map_cons, List.map_nil]); first | done | rfl | (simp only [List.length_drop, List.length_take]; rfl)) ?_; (with_reducible refine (spec_voBits.calls k2 _ _ (rd_L1 l1 x21_2) t202 _ ?side1 ?side2 A14.out).mono ?_); (case side1 => repeat (first | exact (Kd.C_below HR201_0.out HB.out) | (with_reducible refine Kd.C_alloc ?_ _) | (with_reducible refine Kd.C_drewN ?_ _) | (with_reducible refine Kd.C_drew ?_))); (case side2 => exact HC201_0.out); rintro e w' ⟨rfl, ⟨nd, rfl⟩⟩; refine ⟨_, rfl, ?_⟩; (try (rw [drewN_self wr]; generalize hq_ : World.drewN wr _ = wr; have n0_ : Aside0 (Kd.R Kd.bool 4 wr w.heap.size (fun _ => True) (.slice Ao9 x5_2.length co9) x5_2) := ⟨by rw [← hq_]; exact (by (with_reducible repeat (first | apply Kd.R_alloc | apply Kd.R_drewN | apply Kd.R_drew)); exact HO_5.out)⟩; have n1_ : Aside0 (Below w.heap.size w wr) := ⟨by rw [← hq_]; exact (by repeat (first | (with_reducible first | exact HB.out | apply below_alloc | apply pw_below_drewN | apply below_drew1) | exact HB.out))⟩; clear HO_5 HB hq_; have HO_5 := n0_; have HB := n1_; clear n0_ n1_)); have p203 : 0 ≤ (x16_1 : Int) := of_decide_eq_true (by first | (with_reducible assumption) | assumption); have q203 : x16_1 < (x5_2.length : Int) := of_decide_eq_true (by first | (with_reducible assumption) | assumption); obtain ⟨ad203, e203, hx203_0⟩ := Kd.at_bool (Kd.R_reads' HO_5.out).2.2 x16_1 p203 q203; (try rw [← Nbq17.out] at hx203_0); cases e203; replace p203 := eq_true p203; replace q203 := eq_true q203; have p19 : 0 ≤ (x16_1 : Int) := of_decide_eq_true (by first | (with_reducible assumption) | assumption); have q19 : (x16_1 : Int) < ((x5_2.length : Int) : Int) := of_decide_eq_true (by first | (with_reducible assumption) | assumption); obtain ⟨go19, co19, eo19, gb19, gl19, cl19, HG19⟩ := Kd.R_form HO_5.out (by omega); (first | cases eo19 | (injection eo19 with ea_ en_ ec_; (first | subst ea_ | (injection ea_ with ea_; subst ea_)); subst ec_; clear en_)); have GB19 := Aside0.mk gb19; have GG19 := Aside0.mk HG19; clear gb19 gl19 HG19; (first | simp only [add_plain] at hx203_0 | skip); obtain ⟨hx19_0, hf19_0⟩ := Kd.R_celln false HO_5.out (x16_1 : Int) p19 q19; replace p19 := eq_true p19; replace q19 := eq_true q19; obtain ⟨hy20_, hz20_⟩ := Kd.R_celln false HO_5.out (x16_1 : Int) (of_decide_eq_true (by first | (with_reducible assumption) | assumption)) (of_decide_eq_true (by first | (with_reducible assumption) | assumption)); have HP20 := Kd.R_putg HO_5.out (x16_1 : Int) true) | ((with_reducible refine gate_store (t := 4) (p := 40) rfl ?_); refine store_event (t := 4) (p := 40) (v := ?vo_w21) (w1 := (wr.setCell ⟨go19, (x16_1 : Int).toNat, none⟩ (.bool true))) ?hg ?ho ?hn ?hr ?_; (case ho => rfl); (case hg => rfl); (case hn => rfl); (case hr => first | (go_simp; done) | (go_simp; rfl)); intro w21 hw; have hg : wr.grownBy w21 (some go19) := (by rw [hw]; exact HP20.2); have hp_ : Kd.R Kd.bool 4 w21 w.heap.size (fun _ => True) (.slice (some ⟨go19, 0, none⟩) x5_2.length co9) y204 := (by rw [hw, Ny204.out]; exact HP20.1); clear HP20; have n0_ := Aside0.mk (hp_); have n1_ := Aside0.mk ((by rw [hw]; exact below_set (HB.out) GB19.out : Below w.heap.size w w21)); clear HO_5; clear HB; have HO_5 := n0_; have HB := n1_; clear n0_ n1_; clear hg hw hp_))
                            (try simp only [← hl5_2])
                            go_roundg k2
                            case measure => have := HK1.out; have := HK2.out; omega
                            case rel => exact ⟨(y204), (wrap64 (x21_2 + 1)), (by first | rfl | (simp; done) | (simp [*]; done)), H', ⟨by have := HK1.out; have := HK2.out; omega⟩, ⟨by (try simp only [hl5_1]); (try simp only [hl5_2]); (with_reducible repeat (first | apply Kd.R_alloc | apply Kd.R_drewN | apply Kd.R_drew)); exact HO_5.out⟩, ⟨by repeat (first | (with_reducible first | exact HB.out | apply below_alloc | apply pw_below_drewN | apply below_drew1) | exact HB.out)⟩⟩
                          · replace c18 := Bool.eq_false_iff.mpr c18
                            subst c18
                            have H1 : (spec_gmWins.l1 k2 l1 (x5_2.set (x16_1 : Int).toNat ((Go.bits .and .i64 x16_1 t202) == t202)) x16_1 (y198.length : Int) x16_1 l1 (l1.length : Int) (wrap64 (x21_2 + 1))) = some r := by rw [if_neg (show ¬ (false = true) by decide)] at H; exact H
                            clear H
                            have H := H1
                            clear H1
                            obtain ⟨y205, hy205⟩ : ∃ y_ : List Bool, y_ = (x5_2.set (x16_1 : Int).toNat ((Go.bits .and .i64 x16_1 t202) == t202)) := ⟨_, rfl⟩
                            replace H : (spec_gmWins.l1 k2 l1 y205 x16_1 (y198.length : Int) x16_1 l1 (l1.length : Int) (wrap64 (x21_2 + 1))) = some r := by first | (rw [hy205]; with_reducible exact H) | (have H2_ := (Option.bind_some _ _).symm.trans H; rw [hy205]; with_reducible exact H2_) | (have H2_ := (Option.bind_some _ _).symm.trans H; with_reducible exact H2_) | with_reducible exact H | (rw [hy205]; exact H) | exact H
                            have Ny205 := Aside0.mk hy205
                            clear hy205
                            have H' := Aside0.mk H
                            clear H
                            have p201 : 0 ≤ (x21_2 : Int) := of_decide_eq_true (by first | (with_reducible assumption) | assumption)
                            have q201 : x21_2 < (l1.length : Int) := of_decide_eq_true (by first | (with_reducible assumption) | assumption)
                            obtain ⟨ad201, A201_0, c201_0, e201, hx201_0, hl201_0, hi201_0⟩ := at_L1 HR1.out x21_2 p201 q201
                            cases e201
                            replace hx201_0 := (HB.out.cell (World.block_lt_of_cell? w _ hx201_0)).trans hx201_0
                            have HR201_0 := Aside0.mk hi201_0
                            have HC201_0 := Aside0.mk hl201_0
                            clear hi201_0 hl201_0
                            replace p201 := eq_true p201
                            replace q201 := eq_true q201
                            go_wp2_with (first | ((with_reducible refine gate_callee (f := 42) rfl ?_); refine goesL_ (some 26) rfl rfl Try.func42 (by kernel_rfl) rfl #[.slice A201_0 (rd_L1 l1 x21_2).length c201_0] rfl (by (try simp only [List.map_toArray, List.map_cons, List.map_nil]); first | done | rfl | (simp only [List.length_drop, List.length_take]; rfl)) ?_; (with_reducible refine (spec_voBits.calls k2 _ _ (rd_L1 l1 x21_2) t202 _ ?side1 ?side2 A14.out).mono ?_); (case side1 => repeat (first | exact (Kd.C_below HR201_0.out HB.out) | (with_reducible refine Kd.C_alloc ?_ _) | (with_reducible refine Kd.C_drewN ?_ _) | (with_reducible refine Kd.C_drew ?_))); (case side2 => exact HC201_0.out); rintro e w' ⟨rfl, ⟨nd, rfl⟩⟩; refine ⟨_, rfl, ?_⟩; (try (rw [drewN_self wr]; generalize hq_ : World.drewN wr _ = wr; have n0_ : Aside0 (Kd.R Kd.bool 4 wr w.heap.size (fun _ => True) (.slice Ao9 x5_2.length co9) x5_2) := ⟨by rw [← hq_]; exact (by (with_reducible repeat (first | apply Kd.R_alloc | apply Kd.R_drewN | apply Kd.R_drew)); exact HO_5.out)⟩; have n1_ : Aside0 (Below w.heap.size w wr) := ⟨by rw [← hq_]; exact (by repeat (first | (with_reducible first | exact HB.out | apply below_alloc | apply pw_below_drewN | apply below_drew1) | exact HB.out))⟩; clear HO_5 HB hq_; have HO_5 := n0_; have HB := n1_; clear n0_ n1_)); have p203 : 0 ≤ (x16_1 : Int) := of_decide_eq_true (by first | (with_reducible assumption) | assumption); have q203 : x16_1 < (x5_2.length : Int) := of_decide_eq_true (by first | (with_reducible assumption) | assumption); obtain ⟨ad203, e203, hx203_0⟩ := Kd.at_bool (Kd.R_reads' HO_5.out).2.2 x16_1 p203 q203; (try rw [← Nbq17.out] at hx203_0); cases e203; replace p203 := eq_true p203; replace q203 := eq_true q203; have p22 : 0 ≤ (x16_1 : Int) := of_decide_eq_true (by first | (with_reducible assumption) | assumption); have q22 : (x16_1 : Int) < ((x5_2.length : Int) : Int) := of_decide_eq_true (by first | (with_reducible assumption) | assumption); obtain ⟨go22, co22, eo22, gb22, gl22, cl22, HG22⟩ := Kd.R_form HO_5.out (by omega); (first | cases eo22 | (injection eo22 with ea_ en_ ec_; (first | subst ea_ | (injection ea_ with ea_; subst ea_)); subst ec_; clear en_)); have GB22 := Aside0.mk gb22; have GG22 := Aside0.mk HG22; clear gb22 gl22 HG22; (first | simp only [add_plain] at hx203_0 | skip); obtain ⟨hx22_0, hf22_0⟩ := Kd.R_celln false HO_5.out (x16_1 : Int) p22 q22; replace p22 := eq_true p22; replace q22 := eq_true q22; obtain ⟨hy23_, hz23_⟩ := Kd.R_celln false HO_5.out (x16_1 : Int) (of_decide_eq_true (by first | (with_reducible assumption) | assumption)) (of_decide_eq_true (by first | (with_reducible assumption) | assumption)); have HP23 := Kd.R_putg HO_5.out (x16_1 : Int) ((Go.bits .and .i64 x16_1 t202) == t202)) | ((with_reducible refine gate_store (t := 4) (p := 40) rfl ?_); refine store_event (t := 4) (p := 40) (v := ?vo_w24) (w1 := (wr.setCell ⟨go22, (x16_1 : Int).toNat, none⟩ (.bool ((Go.bits .and .i64 x16_1 t202) == t202)))) ?hg ?ho ?hn ?hr ?_; (case ho => rfl); (case hg => rfl); (case hn => rfl); (case hr => first | (go_simp; done) | (go_simp; rfl)); intro w24 hw; have hg : wr.grownBy w24 (some go22) := (by rw [hw]; exact HP23.2); have hp_ : Kd.R Kd.bool 4 w24 w.heap.size (fun _ => True) (.slice (some ⟨go22, 0, none⟩) x5_2.length co9) y205 := (by rw [hw, Ny205.out]; exact HP23.1); clear HP23; have n0_ := Aside0.mk (hp_); have n1_ := Aside0.mk ((by rw [hw]; exact below_set (HB.out) GB22.out : Below w.heap.size w w24)); clear HO_5; clear HB; have HO_5 := n0_; have HB := n1_; clear n0_ n1_; clear hg hw hp_))
                            (try simp only [← hl5_2])
                            go_roundg k2
                            case measure => have := HK1.out; have := HK2.out; omega
                            case rel => exact ⟨(y205), (wrap64 (x21_2 + 1)), (by first | rfl | (simp; done) | (simp [*]; done)), H', ⟨by have := HK1.out; have := HK2.out; omega⟩, ⟨by (try simp only [hl5_1]); (try simp only [hl5_2]); (with_reducible repeat (first | apply Kd.R_alloc | apply Kd.R_drewN | apply Kd.R_drew)); exact HO_5.out⟩, ⟨by repeat (first | (with_reducible first | exact HB.out | apply below_alloc | apply pw_below_drewN | apply below_drew1) | exact HB.out)⟩⟩
                        · rw [if_neg c16] at H
                          exact absurd H (by simp)
                      · rw [if_neg c15] at H
                        exact absurd H (by simp)
                    · rw [if_neg c13] at H
                      exact absurd H (by simp)
                  · rw [if_neg c12] at H
                    exact absurd H (by simp)
                · rw [if_neg c11] at H
                  have c11b0 : decide (x21_2 < (l1.length : Int)) = false := decide_eq_false c11
                  clear c11
                  (try have c11bh := c11b0)
                  (try simp only [hl5_1] at c11bh)
                  (try simp only [hl5_2] at c11bh)
                  have H' := Aside0.mk H
                  clear H
                  go_wp2
                  (try simp only [← hl5_1, ← hl5_2])
                  go_roundg k2
                  case measure => have := HK1.out; have := HK2.out; omega
                  case rel => exact ⟨(x5_2), (wrap64 (x16_1 + 1)), (by first | rfl | (simp; done) | (simp [*]; done)), H', ⟨by have := HK1.out; have := HK2.out; omega⟩, ⟨by (try simp only [hl5_1]); (try simp only [hl5_2]); (with_reducible repeat (first | apply Kd.R_alloc | apply Kd.R_drewN | apply Kd.R_drew)); exact HO_5.out⟩, ⟨by repeat (first | (with_reducible first | exact HB.out | apply below_alloc | apply pw_below_drewN | apply below_drew1) | exact HB.out)⟩⟩
          · rw [if_neg c10] at H
            have c10b0 : decide (x16_1 < (y198.length : Int)) = false := decide_eq_false c10
            clear c10
            (try have c10bh := c10b0)
            (try simp only [hl5_1] at c10bh)
            obtain rfl := Option.some.inj H
            go_wp2
            go_ret
            exact ⟨_, by first | rfl | (simp [errW_none, errW_some] <;> rfl) | (simp only [← hji4]; first | rfl | (simp [errW_none, errW_some] <;> rfl)) | (simp [*, errW_none, errW_some] <;> rfl), by (with_reducible repeat (first | apply Kd.R_alloc | apply Kd.R_drewN | apply Kd.R_drew)); exact HO_5.out, by repeat (first | (with_reducible first | exact HB.out | apply below_alloc | apply pw_below_drewN | apply below_drew1) | exact HB.out)⟩
    · rw [if_neg c6] at H
      exact absurd H (by simp)
  · rw [if_neg c5] at H
    exact absurd H (by simp)

/-! ### spec_gmAll: function 41 -/
def spec_gmAll.f (k : Nat) (a0_0 : Int) (l0_1 : List (List Int)) : Option (List Bool) := (spec_gmWins.f k a0_0 l0_1).bind fun t207 => (some t207)
theorem spec_gmAll.mono : ∀ a0 a1 k, LeO (spec_gmAll.f k a0 a1) (spec_gmAll.f (k + 1) a0 a1) := by
  intro a0 a1 k
  unfold spec_gmAll.f
  repeat' first
      | (with_reducible exact spec_gmWins.mono _ _ _)
      | (with_reducible exact LeO.refl _)
      | (with_reducible exact LeO.none _)
      | (with_reducible refine LeO.ite ?_ ?_)
      | (with_reducible refine LeO.bind ?_ (fun _ => ?_))
      | exact spec_gmWins.mono _ _ _
      | exact LeO.none _
      | refine LeO.ite ?_ ?_
      | refine LeO.bind ?_ (fun _ => ?_)
set_option maxHeartbeats 8000000 in
set_option maxRecDepth 100000 in
theorem spec_gmAll.calls (k : Nat) (a0_0 : Int) (A0_1 : Option Addr) (c0_1 : Nat) (l0_1 : List (List Int)) (r : List Bool) (w : World) (hr0_1 : Kd.C (Kd.slice 3 (Kd.int .i64)) w A0_1 l0_1.length l0_1) (hc0_1 : l0_1.length ≤ c0_1) (h : spec_gmAll.f k a0_0 l0_1 = some r) :
    Calls Try.prog 41 #[.agg #[.int .i64 a0_0, .slice A0_1 l0_1.length c0_1]] w fun e w' => ∃ v0_ : Value, e = .returned (v0_) ∧ Kd.R Kd.bool 4 w' w.heap.size (fun _ => True) v0_ r ∧ Below w.heap.size w w' := by
  have hu27 := Try.underlying27
  have HR0_1 := Aside0.mk hr0_1
  have HC0_1 := Aside0.mk hc0_1
  clear hr0_1 hc0_1
  have HB := Aside0.mk (Below.refl w.heap.size w)
  have H : ((spec_gmWins.f k a0_0 l0_1).bind fun t207 => (some t207)) = some r := h
  clear h
  replace H := Option.bind_eq_some_iff.mp H
  obtain ⟨t207, A20, H⟩ := H
  replace H : (some t207) = some r := H
  have A2 := Aside0.mk A20
  clear A20
  obtain rfl := Option.some.inj H
  go_enter Try.func41, Try.ntmps41
  go_wp2_with (first | ((with_reducible refine gate_dst (N := 1) rfl ?_); refine box_event ?hg (N := 1) ?hd (cs := #[.int .i64 a0_0, .slice A0_1 l0_1.length c0_1]) (t := 27) ?hr ?_; (case hd => rfl); (case hg => rfl); (case hr => first | (go_simp; done) | (go_simp; rfl)); intro gb206 hg w3 hbox hb; have n0_ := Aside0.mk (below_step (by repeat (first | (with_reducible first | exact HB.out | apply below_alloc | apply pw_below_drewN | apply below_drew1) | exact HB.out)) hb); have n1_ := Aside0.mk (hbox); have n2_ := Aside0.mk ((by rw [hg]; exact (below_size (by repeat (first | (with_reducible first | exact HB.out | apply below_alloc | apply pw_below_drewN | apply below_drew1) | exact HB.out))) : w.heap.size ≤ gb206)); have n3_ := Aside0.mk ((by rw [hg]; exact (below_size (by repeat (first | (with_reducible first | exact HB.out | apply below_alloc | apply pw_below_drewN | apply below_drew1) | exact HB.out))) : w.heap.size ≤ gb206)); clear HB; have HB := n0_; have BK206 := n1_; have GW206 := n2_; have GE206 := n3_; clear n0_ n1_ n2_ n3_; clear hb hbox hg; have hcz4_0 : w3.cell? ⟨gb206, 0, none⟩ = some (.int .i64 a0_0) := (blk_cell BK206.out 0).trans rfl; have hcz4_1 : w3.cell? ⟨gb206, 1, none⟩ = some (.slice A0_1 l0_1.length c0_1) := (blk_cell BK206.out 1).trans rfl; have hfz4_0 := blk_frozen BK206.out 0; have hfz4_1 := blk_frozen BK206.out 1) | ((with_reducible refine gate_callee (f := 66) rfl ?_); refine goesL_ (some 7) rfl rfl Try.func66 (by kernel_rfl) rfl #[.int .i64 a0_0, .slice A0_1 l0_1.length c0_1] rfl (by (try simp only [List.map_toArray, List.map_cons, List.map_nil]); first | done | rfl | (simp only [List.length_drop, List.length_take]; rfl)) ?_; (with_reducible refine (spec_gmWins.calls k a0_0 _ _ l0_1 t207 _ ?side1 ?side2 A2.out).mono ?_); (case side1 => repeat (first | exact (Kd.C_below HR0_1.out HB.out) | (with_reducible refine Kd.C_alloc ?_ _) | (with_reducible refine Kd.C_drewN ?_ _) | (with_reducible refine Kd.C_drew ?_))); (case side2 => exact HC0_1.out); rintro e w5 ⟨v208, rfl, ho0, hb⟩; refine ⟨_, rfl, ?_⟩; have n0_ := Aside0.mk (Kd.R_lower ho0 (below_size (by repeat (first | (with_reducible first | exact HB.out | apply below_alloc | apply pw_below_drewN | apply below_drew1 | refine below_set ?_ GE206.out) | exact HB.out)))); have n1_ := Aside0.mk (blk_below (g := gb206) (o := .cells #[.int .i64 a0_0, .slice A0_1 l0_1.length c0_1] 27 (0, 0)) (by (with_reducible repeat (first | refine blk_drewN ?_ _ | refine blk_drew ?_ | refine blk_alloc ?_ _)); exact BK206.out) hb); have n2_ := Aside0.mk (below_step (by repeat (first | (with_reducible first | exact HB.out | apply below_alloc | apply pw_below_drewN | apply below_drew1 | refine below_set ?_ GE206.out) | exact HB.out)) hb); clear BK206; clear HB; have HO209 := n0_; have BK206 := n1_; have HB := n2_; clear n0_ n1_ n2_; (try clear hb); (try clear hb2); (try clear hk); (try clear hi); (try clear ho0)))
  go_ret
  exact ⟨_, by first | rfl | (simp [errW_none, errW_some] <;> rfl) | (simp [*, errW_none, errW_some] <;> rfl), by (with_reducible repeat (first | apply Kd.R_alloc | apply Kd.R_drewN | apply Kd.R_drew)); exact HO209.out, by repeat (first | (with_reducible first | exact HB.out | apply below_alloc | apply pw_below_drewN | apply below_drew1 | refine below_set ?_ GE206.out) | exact HB.out)⟩

-- NOT PRINTED: function 82 (impl_votesBy_1_1)

-- NOT PRINTED: function 81 (impl_votesBy_1)

/-! ### impl_votesBy: function 69 -/
/-- Which sets of n members have all members of one of some sets, told by bits. -/
def byP (ms : List Int) (x : Int) : Bool := ms.any fun m => Go.bits .and .i64 x m == m
def byW (n : Nat) (ms : List Int) : List Bool := (List.range (2 ^ n)).map fun (i : Nat) => byP ms i
set_option maxHeartbeats 1000000 in
theorem impl_votesBy.lit2 (B : Nat) (x : Int) (L : List Int) (w : World) (h0 : w.cell? ⟨B, 0, none⟩ = some (.int .i64 x)) :
    Pred Try.prog 82 #[.pointer (some ⟨B, 0, none⟩)] (Kd.int .i64) (fun m => Go.bits .and .i64 x m == m) L w := by
  intro W m v _ hK hb
  obtain rfl : v = .int .i64 m := by simpa [Kd.int, Kd.scalar] using hK
  have c0 := cell_later hb h0
  have HB := Aside0.mk hb
  clear h0 hb hK
  show Calls Try.prog 82 #[.int .i64 m, .pointer (some ⟨B, 0, none⟩)] W fun e w' => e = .returned (.bool (Go.bits .and .i64 x m == m)) ∧ Below w.heap.size w w'
  go_enter Try.func82, Try.ntmps82
  go_wp2
  go_ret
  exact ⟨rfl, HB.out⟩
set_option maxHeartbeats 1000000 in
theorem impl_votesBy.lit (B : Nat) (A : Option Addr) (c : Nat) (ms : List Int) (N : Int) (w : World) (hblk : w.heap[B]? = some (.cells #[.slice A ms.length c] 31 (0, 0))) (hr : Kd.C (Kd.int .i64) w A ms.length ms) (hc : ms.length ≤ c) :
    ∀ (W : World) (x : Int), 0 ≤ x → x < N → Below w.heap.size w W → Calls Try.prog 81 (#[.int .i64 x] ++ #[.pointer (some ⟨B, 0, none⟩)]) W fun e w' => e = .returned (.bool (byP ms x)) ∧ Below W.heap.size W w' := by
  intro W x _ _ hb
  have hblk' := blk_below hblk hb
  have c0 : W.cell? ⟨B, 0, none⟩ = some (.slice A ms.length c) := (blk_cell hblk' 0).trans rfl
  have hlt := blk_lt hblk'
  have hB : Below W.heap.size W (W.alloc (.cells #[.int .i64 x] 3)) := below_alloc (Below.refl _ _) _
  have hcall := slices_ContainsFunc_int_int.hof (Kd.int .i64) rfl 82 #[.pointer (some ⟨W.heap.size, 0, none⟩)] (enters_of Try.func82 (by kernel_rfl) rfl) _ A c ms _ (impl_votesBy.lit2 W.heap.size x ms (W.alloc (.cells #[.int .i64 x] 3)) (by simp)) (Kd.C_below (Kd.C_below hr hb) hB) hc
  have hp : byP ms x = ms.any (fun m => Go.bits .and .i64 x m == m) := rfl
  rw [hp]
  generalize (ms.any fun m => Go.bits .and .i64 x m == m) = q at hcall ⊢
  have H := Aside0.mk hcall
  have HB := Aside0.mk hB
  clear hcall hB hblk hblk' hr hb hp
  have hmf : ∀ (fn : Fn) (first cap : Array Value) (w : World), (Instr.makeFunc fn first cap).run Try.prog w = .ok (.func fn first cap) w := fun _ _ _ _ => rfl
  show Calls Try.prog 81 #[.int .i64 x, .pointer (some ⟨B, 0, none⟩)] W fun e w' => e = .returned (.bool q) ∧ Below W.heap.size W w'
  go_enter Try.func81, Try.ntmps81
  go_wp2_with (go_at_call 78; refine H.out.mono ?_; rintro e w' ⟨rfl, hb'⟩)
  go_ret
  exact ⟨rfl, below_then HB.out (by simp) hb'⟩
def impl_votesBy.ms (k : Nat) (l1 : List (List Int)) : List Int := l1.map fun s => (impl_maskOf.f k s).getD 0
def impl_votesBy.f (k : Nat) (a0 : Int) (l1 : List (List Int)) : Option (Int × (List Bool)) := if 0 ≤ a0 ∧ a0 ≤ 9 ∧ l1.length ≤ 1000000 ∧ l1.all (fun s => (impl_maskOf.f k s).isSome) = true then some (a0, byW a0.toNat (impl_votesBy.ms k l1)) else none
theorem impl_votesBy.mono : ∀ a0 a1 k, LeO (impl_votesBy.f k a0 a1) (impl_votesBy.f (k + 1) a0 a1) := by
  intro a0 a1 k r h
  unfold impl_votesBy.f at h ⊢
  split at h
  case isFalse => cases h
  rename_i hg
  obtain ⟨g0, g1, g2, g3⟩ := hg
  obtain ⟨h1, h2⟩ := all_some (fun s => impl_maskOf.f k s) (fun s => impl_maskOf.f (k + 1) s) a1 (fun s => impl_maskOf.mono s k) g3
  have e : impl_votesBy.ms (k + 1) a1 = impl_votesBy.ms k a1 := List.map_congr_left (fun s hs => by rw [h2 s hs])
  rw [if_pos ⟨g0, g1, g2, h1⟩, e, h]
set_option maxHeartbeats 4000000 in
set_option maxRecDepth 100000 in
theorem impl_votesBy.calls (k : Nat) (a0 : Int) (A1 : Option Addr) (c1 : Nat) (l1 : List (List Int)) (r1 : Int) (r2 : List Bool) (w : World) (hr1 : Kd.C (Kd.slice 3 (Kd.int .i64)) w A1 l1.length l1) (hc1 : l1.length ≤ c1) (h : impl_votesBy.f k a0 l1 = some (r1, r2)) :
    Calls Try.prog 69 #[.int .i64 a0, .slice A1 l1.length c1] w fun e w' => ∃ v1_ : Value, e = .returned (.agg #[.int .i64 r1, v1_]) ∧ Kd.R Kd.bool 4 w' w.heap.size (fun _ => True) v1_ r2 ∧ Below w.heap.size w w' := by
  unfold impl_votesBy.f at h
  split at h
  case isFalse => cases h
  rename_i hg
  obtain ⟨g0, g1, g2, g3⟩ := hg
  simp only [Option.some.injEq, Prod.mk.injEq] at h
  obtain ⟨rfl, rfl⟩ := h
  have hu2 := Try.underlying58
  have hmask : ∀ (i : Nat) (hi : i < l1.length), impl_maskOf.f k l1[i] = some ((impl_maskOf.f k l1[i]).getD 0) := fun i hi => by
    obtain ⟨b, hb⟩ := Option.isSome_iff_exists.1 (List.all_eq_true.1 g3 _ (List.getElem_mem hi))
    rw [hb]
    rfl
  generalize hws : byW a0.toNat (impl_votesBy.ms k l1) = ws
  have HWS := Aside0.mk hws
  clear hws
  have HMask := Aside0.mk hmask
  have HR1 := Aside0.mk hr1
  clear hmask hr1 g3
  have e0 : ((w.alloc (.cells #[.int .i64 0, .slice none 0 0] 58))).heap[w.heap.size]? = some (.cells #[.int .i64 0, .slice none 0 0] 58 (0, 0)) := blk_new w _
  have E0 := Aside0.mk e0
  have HB := Aside0.mk (Below.refl w.heap.size w)
  go_enter Try.func69, Try.ntmps69
  go_wp2_with ((with_reducible refine gate_dst (N := 8) rfl ?_); refine Kd.R_lit (Kd.int .i64) _ 3 ?hg (N := 8) ?hd (xs := ([] : List Int)) (inner := []) (ok := fun _ => True) (okp := fun _ => True) ?hr ?hp (fun _ hk => hk) trivial (Below.refl _ _) (Nat.le_refl _) (by simp) ?_; (case hd => rfl); (case hg => rfl); (case hr => first | (go_simp; done) | (go_simp; rfl)); (case hp => exact (Reps.none _ _)); intro v199 w3 ho4 hb hg_ hnew_; obtain ⟨A9, c9, rfl⟩ := Kd.R_slice ho4; clear hg_ hnew_; have n0_ := Aside0.mk (Kd.R_lower ho4 (below_size (below_alloc HB.out _))); have n1_ := Aside0.mk (below_step (below_alloc HB.out _) hb); have n2_ := Aside0.mk (blk_below E0.out hb); clear HB E0; have HO := n0_; have HB := n1_; have E0 := n2_; clear n0_ n1_ n2_; clear hb ho4)
  have HBl := Aside0.mk (blk_lt E0.out)
  go_loopg [11] l1.length (fun gg s11 wr => ∃ (kk : Nat) (v : Value), kk ≤ l1.length ∧ l1.length - kk ≤ gg ∧ s11 = .int .i64 kk ∧ Aside0 (Below w.heap.size w wr) ∧ Aside0 (wr.heap[w.heap.size]? = some (.cells #[.int .i64 0, .slice none 0 0] 58 (0, 0))) ∧ Aside0 (wr.heap[w3.heap.size]? = some (.cells #[v] 31 (0, 0))) ∧ Aside0 (Kd.R (Kd.int .i64) 3 wr w.heap.size (fun _ => True) v (impl_votesBy.ms k (l1.take kk))))
  case atStart => exact ⟨0, .slice A9 0 c9, Nat.zero_le _, by omega, rfl, ⟨below_alloc HB.out _⟩, ⟨blk_alloc E0.out _⟩, ⟨blk_new w3 _⟩, ⟨Kd.R_alloc HO.out _⟩⟩
  case round =>
    obtain ⟨kk, v, hkk, hg, rfl, BW, EZ, B0, HO2⟩ := hrel
    have HBl := HBl.out
    clear HO HB E0 e0
    generalize hBd : w3.heap.size = B at HBl B0 ⊢
    by_cases hlt : kk < l1.length
    · have hltz : (kk : Int) < (l1.length : Int) := by omega
      obtain ⟨ad, u, eA, hK, hcell⟩ := C_one (d := Kd.slice 3 (Kd.int .i64)) rfl HR1.out kk hlt
      cases eA
      obtain ⟨As, cs, hu, hcs, hrs⟩ := hK
      obtain rfl : u = .slice As l1[kk].length cs := by simpa using hu
      have hcell' : wr.cell? (ad.add kk) = some (.slice As l1[kk].length cs) := cell_later BW.out hcell
      have hmk := HMask.out kk hlt
      have hs : impl_votesBy.ms k (l1.take (kk + 1)) = impl_votesBy.ms k (l1.take kk) ++ [(impl_maskOf.f k l1[kk]).getD 0] := by
        unfold impl_votesBy.ms
        rw [List.take_succ_eq_append_getElem hlt, List.map_append]
        rfl
      have hl : (impl_votesBy.ms k (l1.take kk)).length ≤ 1000000 := by
        unfold impl_votesBy.ms
        rw [List.length_map, List.length_take]
        omega
      have HS := Aside0.mk hs
      clear hs hu hcell
      generalize (impl_maskOf.f k l1[kk]).getD 0 = mk at hmk HS
      generalize l1[kk] = sk at hmk hrs hcs hcell'
      generalize impl_votesBy.ms k (l1.take kk) = ys at HO2 HS hl
      have HL := Aside0.mk hl
      have HM := Aside0.mk (fun (W : World) (hW : Below wr.heap.size wr W) => impl_maskOf.calls k As cs sk mk W (Kd.C_below (Kd.C_below hrs BW.out) hW) hcs hmk)
      have hdr : Below wr.heap.size wr wr.drew := below_drew1 (Below.refl _ _)
      clear hl hmk hrs hcs
      go_wp2_with fail
      refine start_ (n := 6) (S := fun w' => w'.cell? ⟨B, 0, none⟩ = some v) (ds := [5]) #[false, false, false, false, false, false] (by kernel_rfl) rfl rfl ((blk_cell (blk_drew B0.out) 0).trans rfl) (fun hHeld => ?_)
      refine pure_ (i := 1) (N := some 16) (v := ?_) (a' := ?_) #[false, true, false, false, false, false] rfl rfl (by kernel_rfl) (fun _ _ _ h => h) (Or.inl ⟨by rfl, ?_⟩) ?_ ?_
      rotate_left
      · intro w'
        go_simp
        with_reducible rfl
      rotate_left
      · simp only [Act.put, List.setIfInBounds_toArray, List.set_cons_zero, List.set_cons_succ, i64_w, i32_w]
        rfl
      refine take_ (i := 0) (N := some 15) (v := ?_) (a' := ?_) #[true, true, false, false, false, false] rfl rfl (by kernel_rfl) (fun _ _ _ h => h) (Or.inl ⟨by rfl, ?_⟩) hHeld ?_ ?_
      rotate_left
      · intro w' s0
        go_simp
        with_reducible rfl
      rotate_left
      · simp only [Act.put, List.setIfInBounds_toArray, List.set_cons_zero, List.set_cons_succ, i64_w, i32_w]
        rfl
      refine one_ (i := 2) (N := some 17) #[true, true, true, false, false, false] rfl rfl (by kernel_rfl) (by decide) (fun K hK => ?_)
      refine goes_ Try.func38 (by kernel_rfl) rfl #[.slice As sk.length cs] (by rfl) rfl rfl (by simp only [List.map_toArray, List.map_cons, List.map_nil]; rfl) ?_
      with_reducible refine (HM.out _ hdr).mono ?_
      rintro e w2 ⟨rfl, hd2⟩
      refine ⟨_, rfl, ?_⟩
      have hb2 := hd2.below
      have bx2 := Aside0.mk (blk_below (blk_drew B0.out) hb2)
      have ez2 := Aside0.mk (blk_below (blk_drew EZ.out) hb2)
      have ro2 := Aside0.mk (Kd.R_below (Kd.R_drew HO2.out) hb2)
      have be2 := Aside0.mk (below_step (below_drew1 BW.out) hb2)
      clear hb2 hd2
      refine hK.out _ _ ((blk_cell bx2.out 0).trans rfl) (fun hHeld => ?_)
      clear hK K
      refine norm_ (a' := ?_) ?_ ?_
      rotate_left
      · show Act.put _ (some 17) _ = _
        simp only [Act.put, List.setIfInBounds_toArray, List.set_cons_zero, List.set_cons_succ, i64_w, i32_w]
        rfl
      refine one_ (i := 3) (N := some 18) #[true, true, true, true, false, false] rfl rfl (by kernel_rfl) (by decide) (fun K hK => ?_)
      refine value_ (w1 := ?_) (v := ?_) (by rfl) rfl ?_ ?_
      rotate_left 2
      · go_simp
        constructor
        · rfl
        · rfl
      have bx3 := Aside0.mk (blk_alloc bx2.out (.cells #[.int .i64 mk] 3))
      refine hK.out _ _ ((blk_cell bx3.out 0).trans rfl) (fun hHeld => ?_)
      clear hK K
      refine norm_ (a' := ?_) ?_ ?_
      rotate_left
      · show Act.put _ (some 18) _ = _
        simp only [Act.put, List.setIfInBounds_toArray, List.set_cons_zero, List.set_cons_succ, i64_w, i32_w]
        rfl
      refine one_ (i := 4) (N := some 19) #[true, true, true, true, true, false] rfl rfl (by kernel_rfl) (by decide) (fun K hK => ?_)
      refine Kd.R_append_step (Kd.int .i64) (w0 := w) w.heap.size (by rfl) (.tmp 15) (.tmp 18) 31 3 (.int .i64 0) 8 rfl Try.underlying31 info3 rfl (by decide) (by omega) v ys mk [.int .i64 mk] (fun _ => True) (fun _ => False) rfl rfl rfl (fun _ hk => hk.elim) (fun _ _ => trivial) ro2.out be2.out (below_size be2.out) (by have := HL.out; omega) ?_
      intro v1 w4 ho4 hb4 hg4 hat4
      obtain ⟨An, cn, rfl⟩ := Kd.R_slice ho4
      have ho4 := Aside0.mk ho4
      have bx4 := Aside0.mk (blk_grown (g := B) bx2.out hg4 (Kd.R_ne ro2.out bx2.out (by decide)))
      have ez4 := Aside0.mk (blk_grown ez2.out hg4 (Kd.R_ne ro2.out ez2.out (by decide)))
      have hfz4 := blk_frozen bx4.out 0
      refine hK.out _ _ ((blk_cell bx4.out 0).trans rfl) (fun hHeld => ?_)
      clear hK K
      refine norm_ (a' := ?_) ?_ ?_
      rotate_left
      · show Act.put _ (some 19) _ = _
        simp only [Act.put, List.setIfInBounds_toArray, List.set_cons_zero, List.set_cons_succ, i64_w, i32_w]
        rfl
      refine last_ (i := 5) (N := none) #[true, true, true, true, true, true] rfl rfl (by kernel_rfl) (by decide) (fun K hK => ?_)
      refine skip_ (w1 := ?_) (by rfl) rfl ?_ ?_
      rotate_left
      · go_simp
        rfl
      refine hK.out _ _ ?_
      clear hK K
      refine done_ (by kernel_rfl) ?_
      go_wp2
      subst hBd
      go_roundg (l1.length - (kk + 1))
      case measure => omega
      case rel =>
        have hbs : w.heap.size ≤ w3.heap.size := by omega
        have hro := Kd.R_set ho4.out bx4.out (by decide) 0 (.slice An (ys ++ [mk]).length cn)
        rw [List.length_append] at hro
        refine ⟨kk + 1, _, by omega, by omega, by go_num, ⟨below_set hb4 hbs⟩, ⟨blk_far ez4.out (by simp; omega) _⟩, ⟨blk_set bx4.out 0 _⟩, ⟨?_⟩⟩
        rw [HS.out]
        exact hro
    · have hltz : ¬ (kk : Int) < (l1.length : Int) := by omega
      obtain rfl : kk = l1.length := by omega
      rw [List.take_length] at HO2
      obtain ⟨Am, cm, rfl⟩ := Kd.R_slice HO2.out
      obtain ⟨-, hcm, hrm⟩ := Kd.R_reads' HO2.out
      have hcall := impl_votesOf.hof 81 #[.pointer (some ⟨B, 0, none⟩)] (enters_of Try.func81 (by kernel_rfl) rfl) (byP (impl_votesBy.ms k l1)) a0 g0 g1 wr (impl_votesBy.lit B Am cm (impl_votesBy.ms k l1) (2 ^ a0.toNat) wr B0.out hrm hcm)
      have ew : ((List.range (2 ^ a0.toNat)).map fun (i : Nat) => byP (impl_votesBy.ms k l1) i) = ws := HWS.out
      rw [ew] at hcall
      have H := Aside0.mk hcall
      clear hcall ew hrm hcm HO2 HMask HR1
      have hmf : ∀ (fn : Fn) (first cap : Array Value) (w : World), (Instr.makeFunc fn first cap).run Try.prog w = .ok (.func fn first cap) w := fun _ _ _ _ => rfl
      go_wp2_with (go_at_call 80; refine H.out.mono ?_; rintro e w1 ⟨v, rfl, HR, hb1⟩; have B2 := Aside0.mk (blk_below EZ.out hb1); have hs1 := blk_lt B2.out; have hcz0 : w1.cell? ⟨w.heap.size, 0, none⟩ = some (.int .i64 0) := (blk_cell B2.out 0).trans rfl; have hcz1 : w1.cell? ⟨w.heap.size, 1, none⟩ = some (.slice none 0 0) := (blk_cell B2.out 1).trans rfl; have hfz0 := blk_frozen B2.out 0; have hfz1 := blk_frozen B2.out 1; obtain ⟨Aw, cw, rfl⟩ := Kd.R_slice HR; have HR' := Aside0.mk HR; have HB' := Aside0.mk hb1; clear HR hb1)
      have hsz := BW.out.size
      refine bodyPost_ret (results_cell_row rfl _ _ w.heap.size 58 #[.int .i64 a0, .slice Aw ws.length cw] (0, 0) _ rfl ?_ Try.underlying58 rfl (by kernel_rfl)) rfl ⟨_, rfl, ?_, ?_⟩
      · exact blk_set (blk_set B2.out 0 _) 1 _
      · exact Kd.R_mono (Kd.R_far (p := ⟨w.heap.size, 1, none⟩) (Kd.R_far (p := ⟨w.heap.size, 0, none⟩) (Kd.R_types (Kd.R_lower HR'.out hsz) B2.out (by decide)) (fun _ hk => hk.2) _) (fun _ hk => hk.2) _) (fun _ _ => trivial)
      · exact below_set (below_set (below_then BW.out hsz HB'.out) (Nat.le_refl _)) (Nat.le_refl _)


/-! ### impl_Game_votes: function 44 -/
def impl_Game_votes.f (k : Nat) (a0_0 : Int) (l0_1 : List (List Int)) : Option (Int × List Bool) := (impl_votesBy.f k a0_0 l0_1).bind fun bt220 => (some (bt220.1, bt220.2))
theorem impl_Game_votes.mono : ∀ a0 a1 k, LeO (impl_Game_votes.f k a0 a1) (impl_Game_votes.f (k + 1) a0 a1) := by
  intro a0 a1 k
  unfold impl_Game_votes.f
  repeat' first
      | (with_reducible exact impl_votesBy.mono _ _ _)
      | (with_reducible exact LeO.refl _)
      | (with_reducible exact LeO.none _)
      | (with_reducible refine LeO.ite ?_ ?_)
      | (with_reducible refine LeO.bind ?_ (fun _ => ?_))
      | exact impl_votesBy.mono _ _ _
      | exact LeO.none _
      | refine LeO.ite ?_ ?_
      | refine LeO.bind ?_ (fun _ => ?_)
set_option maxHeartbeats 8000000 in
set_option maxRecDepth 100000 in
theorem impl_Game_votes.calls (k : Nat) (a0_0 : Int) (A0_1 : Option Addr) (c0_1 : Nat) (l0_1 : List (List Int)) (r1 : Int) (r2 : List Bool) (w : World) (hr0_1 : Kd.C (Kd.slice 3 (Kd.int .i64)) w A0_1 l0_1.length l0_1) (hc0_1 : l0_1.length ≤ c0_1) (h : impl_Game_votes.f k a0_0 l0_1 = some (r1, r2)) :
    Calls Try.prog 44 #[.agg #[.int .i64 a0_0, .slice A0_1 l0_1.length c0_1]] w fun e w' => ∃ v1_ : Value, e = .returned (.agg #[.int .i64 r1, v1_]) ∧ Kd.R Kd.bool 4 w' w.heap.size (fun _ => True) v1_ r2 ∧ Below w.heap.size w w' := by
  have hu27 := Try.underlying27
  have hu58 := Try.underlying58
  have HR0_1 := Aside0.mk hr0_1
  have HC0_1 := Aside0.mk hc0_1
  clear hr0_1 hc0_1
  have HB := Aside0.mk (Below.refl w.heap.size w)
  have H : ((impl_votesBy.f k a0_0 l0_1).bind fun bt220 => (some (bt220.1, bt220.2))) = some (r1, r2) := h
  clear h
  replace H := Option.bind_eq_some_iff.mp H
  obtain ⟨⟨t220, t221⟩, A20, H⟩ := H
  replace H : (some (t220, t221)) = some (r1, r2) := H
  have A2 := Aside0.mk A20
  clear A20
  simp only [Option.some.injEq, Prod.mk.injEq] at H
  obtain ⟨rfl, rfl⟩ := H
  go_enter Try.func44, Try.ntmps44
  go_wp2_with (first | ((with_reducible refine gate_dst (N := 1) rfl ?_); refine box_event ?hg (N := 1) ?hd (cs := #[.int .i64 a0_0, .slice A0_1 l0_1.length c0_1]) (t := 27) ?hr ?_; (case hd => rfl); (case hg => rfl); (case hr => first | (go_simp; done) | (go_simp; rfl)); intro gb218 hg w3 hbox hb; have n0_ := Aside0.mk (below_step (by repeat (first | (with_reducible first | exact HB.out | apply below_alloc | apply pw_below_drewN | apply below_drew1) | exact HB.out)) hb); have n1_ := Aside0.mk (hbox); have n2_ := Aside0.mk ((by rw [hg]; exact (below_size (by repeat (first | (with_reducible first | exact HB.out | apply below_alloc | apply pw_below_drewN | apply below_drew1) | exact HB.out))) : w.heap.size ≤ gb218)); have n3_ := Aside0.mk ((by rw [hg]; exact (below_size (by repeat (first | (with_reducible first | exact HB.out | apply below_alloc | apply pw_below_drewN | apply below_drew1) | exact HB.out))) : w.heap.size ≤ gb218)); clear HB; have HB := n0_; have BK218 := n1_; have GW218 := n2_; have GE218 := n3_; clear n0_ n1_ n2_ n3_; clear hb hbox hg) | ((with_reducible refine gate_dst (N := 2) rfl ?_); refine box_event ?hg (N := 2) ?hd (cs := #[.int .i64 0, .slice none 0 0]) (t := 58) ?hr ?_; (case hd => rfl); (case hg => rfl); (case hr => first | (go_simp; done) | (go_simp; rfl)); intro gb219 hg w4 hbox hb; have n0_ := Aside0.mk (blk_below (g := gb218) (o := .cells #[.int .i64 a0_0, .slice A0_1 l0_1.length c0_1] 27 (0, 0)) (by (with_reducible repeat (first | refine blk_drewN ?_ _ | refine blk_drew ?_ | refine blk_alloc ?_ _)); exact BK218.out) hb); have n1_ := Aside0.mk (below_step (by repeat (first | (with_reducible first | exact HB.out | apply below_alloc | apply pw_below_drewN | apply below_drew1 | refine below_set ?_ GE218.out) | exact HB.out)) hb); have n2_ := Aside0.mk (hbox); have n3_ := Aside0.mk ((by rw [hg]; exact (below_size (by repeat (first | (with_reducible first | exact HB.out | apply below_alloc | apply pw_below_drewN | apply below_drew1 | refine below_set ?_ GE218.out) | exact HB.out))) : w.heap.size ≤ gb219)); have n4_ := Aside0.mk ((by rw [hg]; exact (below_size (by repeat (first | (with_reducible first | exact HB.out | apply below_alloc | apply pw_below_drewN | apply below_drew1 | refine below_set ?_ GE218.out) | exact HB.out))) : w.heap.size ≤ gb219)); have n5_ := Aside0.mk ((by rw [hg]; exact Nat.ne_of_lt (blk_lt (g := gb218) (o := .cells #[.int .i64 a0_0, .slice A0_1 l0_1.length c0_1] 27 (0, 0)) (by (with_reducible repeat (first | refine blk_drewN ?_ _ | refine blk_drew ?_ | refine blk_alloc ?_ _)); exact BK218.out)) : gb218 ≠ gb219)); have n6_ := Aside0.mk ((by rw [hg]; exact Nat.ne_of_gt (blk_lt (g := gb218) (o := .cells #[.int .i64 a0_0, .slice A0_1 l0_1.length c0_1] 27 (0, 0)) (by (with_reducible repeat (first | refine blk_drewN ?_ _ | refine blk_drew ?_ | refine blk_alloc ?_ _)); exact BK218.out)) : gb219 ≠ gb218)); clear BK218; clear HB; have BK218 := n0_; have HB := n1_; have BK219 := n2_; have GW219 := n3_; have GE219 := n4_; have NB218_219 := n5_; have NB219_218 := n6_; clear n0_ n1_ n2_ n3_ n4_ n5_ n6_; clear hb hbox hg; have hnb5 := NB218_219.out; have hnc5 := NB219_218.out; have hcz6_0 : w4.cell? ⟨gb218, 0, none⟩ = some (.int .i64 a0_0) := (blk_cell BK218.out 0).trans rfl; have hcz6_1 : w4.cell? ⟨gb218, 1, none⟩ = some (.slice A0_1 l0_1.length c0_1) := (blk_cell BK218.out 1).trans rfl; have hfz6_0 := blk_frozen BK218.out 0; have hfz6_1 := blk_frozen BK218.out 1) | ((with_reducible refine gate_callee (f := 69) rfl ?_); refine goesL_ (some 7) rfl rfl Try.func69 (by kernel_rfl) rfl #[.int .i64 a0_0, .slice A0_1 l0_1.length c0_1] rfl (by (try simp only [List.map_toArray, List.map_cons, List.map_nil]); first | done | rfl | (simp only [List.length_drop, List.length_take]; rfl)) ?_; (with_reducible refine (impl_votesBy.calls k a0_0 _ _ l0_1 t220 t221 _ ?side1 ?side2 A2.out).mono ?_); (case side1 => repeat (first | exact (Kd.C_below HR0_1.out HB.out) | (with_reducible refine Kd.C_alloc ?_ _) | (with_reducible refine Kd.C_drewN ?_ _) | (with_reducible refine Kd.C_drew ?_))); (case side2 => exact HC0_1.out); rintro e w7 ⟨v222, rfl, ho0, hb⟩; refine ⟨_, rfl, ?_⟩; have n0_ := Aside0.mk (Kd.R_lower ho0 (below_size (by repeat (first | (with_reducible first | exact HB.out | apply below_alloc | apply pw_below_drewN | apply below_drew1 | refine below_set ?_ GE218.out | refine below_set ?_ GE219.out) | exact HB.out)))); have n1_ := Aside0.mk (blk_below (g := gb218) (o := .cells #[.int .i64 a0_0, .slice A0_1 l0_1.length c0_1] 27 (0, 0)) (by (with_reducible repeat (first | refine blk_drewN ?_ _ | refine blk_drew ?_ | refine blk_alloc ?_ _)); exact BK218.out) hb); have n2_ := Aside0.mk (blk_below (g := gb219) (o := .cells #[.int .i64 0, .slice none 0 0] 58 (0, 0)) (by (with_reducible repeat (first | refine blk_drewN ?_ _ | refine blk_drew ?_ | refine blk_alloc ?_ _)); exact BK219.out) hb); have n3_ := Aside0.mk (below_step (by repeat (first | (with_reducible first | exact HB.out | apply below_alloc | apply pw_below_drewN | apply below_drew1 | refine below_set ?_ GE218.out | refine below_set ?_ GE219.out) | exact HB.out)) hb); clear BK218; clear BK219; clear HB; have HO223 := n0_; have BK218 := n1_; have BK219 := n2_; have HB := n3_; clear n0_ n1_ n2_ n3_; (try clear hb); (try clear hb2); (try clear hk); (try clear hi); (try clear ho0); have hcz8_0 : w7.cell? ⟨gb219, 0, none⟩ = some (.int .i64 0) := (blk_cell BK219.out 0).trans rfl; have hcz8_1 : w7.cell? ⟨gb219, 1, none⟩ = some (.slice none 0 0) := (blk_cell BK219.out 1).trans rfl; have hfz8_0 := blk_frozen BK219.out 0; have hfz8_1 := blk_frozen BK219.out 1; obtain ⟨Ao9, co9, eo9⟩ := Kd.R_slice HO223.out; subst eo9))
  refine bodyPost_ret (results_cell_row rfl _ _ gb219 58 #[.int .i64 t220, .slice Ao9 t221.length co9] (0, 0) _ rfl (by (with_reducible repeat (first | refine blk_drewN ?_ _ | refine blk_drew ?_ | refine blk_alloc ?_ _)); refine blk_put (cs := #[.int .i64 t220, .slice none 0 0]) ?_ 1 _ rfl; (with_reducible repeat (first | refine blk_drewN ?_ _ | refine blk_drew ?_ | refine blk_alloc ?_ _)); refine blk_put (cs := #[.int .i64 0, .slice none 0 0]) ?_ 0 _ rfl; (with_reducible repeat (first | refine blk_drewN ?_ _ | refine blk_drew ?_ | refine blk_alloc ?_ _)); exact BK219.out) Try.underlying58 rfl (by kernel_rfl)) rfl ?_
  exact ⟨_, by first | rfl | (simp [errW_none, errW_some] <;> rfl) | (simp [*, errW_none, errW_some] <;> rfl), by (with_reducible repeat (first | apply Kd.R_alloc | apply Kd.R_drewN | apply Kd.R_drew)); exact Kd.R_mono (Kd.R_far (p := ⟨gb219, 1, none⟩) (Kd.R_far (p := ⟨gb219, 0, none⟩) (Kd.R_types HO223.out BK219.out (by decide)) (fun _ hk => hk.2) (.int .i64 t220)) (fun _ hk => hk.2) (.slice Ao9 t221.length co9)) (fun _ hk => trivial), by repeat (first | (with_reducible first | exact HB.out | apply below_alloc | apply pw_below_drewN | apply below_drew1 | refine below_set ?_ GE218.out | refine below_set ?_ GE219.out) | exact HB.out)⟩

end Go.Proofs.Ytadlpnejkkblfaa.P
