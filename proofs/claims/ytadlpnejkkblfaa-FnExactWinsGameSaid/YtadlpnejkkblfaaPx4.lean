-- Functions and contracts: laid by a program of mine out of the translation. Not trusted: Lean checks it.
import Derived.Test.YtadlpnejkkblfaaPx0
namespace Go.Proofs.Ytadlpnejkkblfaa.P
open Go.RowKit Go.Proofs.YtadlpnejkkblfaaW.PrintWords Go.Proofs.YtadlpnejkkblfaaW.PrintLast Go.Proofs.YtadlpnejkkblfaaW.PrintMore
attribute [local go_sem] max2_int min2_int max_two min_two max_three min_three max_four min_four   -- for this text's walks alone
set_option linter.unusedVariables false
set_option linter.unusedSimpArgs false

/-! ### impl_votesOf: function 80 -/
set_option maxHeartbeats 4000000 in
theorem impl_votesOf.hof (g : Nat) (lb : Array Value) (eg : ∀ args w, (callFunc g args).run Try.prog w = .ok (.enter g args) w) (p : Int → Bool) (a0 : Int) (ha : 0 ≤ a0) (hn : a0 ≤ 9) (w : World)
    (hp : ∀ (W : World) (x : Int), 0 ≤ x → x < 2 ^ a0.toNat → Below w.heap.size w W → Calls Try.prog g (#[.int .i64 x] ++ lb) W fun e w' => e = .returned (.bool (p x)) ∧ Below W.heap.size W w') :
    Calls Try.prog 80 #[.int .i64 a0, .func (.func g) #[] lb] w fun e w' => ∃ v : Value, e = .returned (.agg #[.int .i64 a0, v]) ∧ Kd.R Kd.bool 4 w' w.heap.size (fun _ => True) v ((List.range (2 ^ a0.toNat)).map fun (i : Nat) => p i) ∧ Below w.heap.size w w' := by
  have hu := Try.underlying58
  have HP := Aside0.mk hp
  clear hp
  obtain ⟨NN, hNN⟩ : ∃ NN : Nat, NN = 2 ^ a0.toNat := ⟨_, rfl⟩
  have hN9 : NN ≤ 512 := by rw [hNN]; exact Nat.pow_le_pow_right (n := 2) (by omega) (show a0.toNat ≤ 9 by omega)
  have hN0 : 1 ≤ NN := by rw [hNN]; exact Nat.one_le_two_pow
  have hs : (shl .i64 1 a0) = (NN : Int) := by
    unfold shl
    rw [show min a0.toNat IntKind.i64.bits = a0.toNat by have : IntKind.i64.bits = 64 := rfl; omega]
    rw [i64_w, Int.one_mul, hNN]
    have : ((2 ^ a0.toNat : Nat) : Int) = 2 ^ a0.toNat := by simp
    rw [← this, ← hNN]
    exact wrap_id (by omega) (by omega)
  have c2b0 := eq_true ha
  have c2b1 : decide (0 ≤ a0) = true := decide_eq_true ha
  have hji3_ : (IntKind.i64.wrap (1 * 2 ^ min a0.toNat 64)) = (NN : Int) := hs
  have hji3z : a0 ≤ 64 → (IntKind.i64.wrap (1 * 2 ^ a0.toNat)) = (NN : Int) := shl_small hs
  have hji3u : (IntKind.i64.wrap (2 ^ min a0.toNat 64)) = (NN : Int) := by have h_ := hji3_; rw [Int.one_mul] at h_; exact h_
  have hji3v : a0 ≤ 64 → (IntKind.i64.wrap (2 ^ a0.toNat)) = (NN : Int) := fun hle_ => by have h_ := hji3z hle_; rw [Int.one_mul] at h_; exact h_
  have hji3y : (wrap64 (1 * 2 ^ min a0.toNat 64)) = (NN : Int) := (i64_w _).symm.trans hji3_
  have hji3x : a0 ≤ 64 → (wrap64 (1 * 2 ^ a0.toNat)) = (NN : Int) := fun h_ => (i64_w _).symm.trans (hji3z h_)
  rw [← hNN]
  clear ha
  have HN := Aside0.mk hNN
  clear hNN hs
  have hmk := print_make_of (P := Try.prog) 54 4 (.bool false) 1 Try.underlying54 info4 rfl (by decide) NN (by omega)
  go_enter Try.func80, Try.ntmps80
  go_wp2_with fail
  go_loopg [15] NN (fun gg s15 wr => ∃ kk : Nat, kk ≤ NN ∧ NN - kk ≤ gg ∧ s15 = .int .i64 kk ∧ Aside0 (Below w.heap.size w wr) ∧ Aside0 (wr.heap[w.heap.size]? = some (.cells #[.int .i64 0, .slice none 0 0] 58 (0, 0))) ∧ Aside0 (wr.heap[w.heap.size + 1]? = some (.cells (winCells p NN kk) 4 (0, 0))) ∧ Aside0 (wr.heap[w.heap.size + 1 + 1]? = some (.cells #[.int .i64 a0, .slice (some ⟨w.heap.size + 1, 0, none⟩) NN NN] 58 (0, 0))))
  case atStart =>
    refine ⟨0, Nat.zero_le _, by omega, rfl, ⟨Joins.below_alloc3 w _ _ _⟩, ⟨?_⟩, ⟨?_⟩, ⟨?_⟩⟩
    · exact (three_blocks w _ _ _).1
    · rw [← winCells_zero]
      exact (three_blocks w _ _ _).2.1
    · exact (three_blocks w _ _ _).2.2
  case round =>
    obtain ⟨kk, hkk, hg, rfl, BW, B0, B1, B2⟩ := hrel
    by_cases hlt : kk < NN
    · have hltz : (kk : Int) < (NN : Int) := by omega
      have hcall : ∀ W, Below wr.heap.size wr W → Calls Try.prog g (#[.int .i64 (kk : Int)] ++ lb) W fun e w' => e = .returned (.bool (p kk)) ∧ Below W.heap.size W w' := fun W hW =>
        HP.out W kk (by omega) (by have := HN.out; have h2 : ((2 ^ a0.toNat : Nat) : Int) = 2 ^ a0.toNat := by simp
                                   omega) (below_then BW.out BW.out.size hW)
      have HC := Aside0.mk hcall
      clear hcall
      have hc1 : wr.cell? ⟨w.heap.size + 1 + 1, 1, none⟩ = some (.slice (some ⟨w.heap.size + 1, 0, none⟩) NN NN) := (blk_cell B2.out 1).trans rfl
      have hf1 := blk_frozen B1.out kk
      have hs1 : w.heap.size + 1 < wr.heap.size := blk_lt B1.out
      have hs2 : w.heap.size + 1 + 1 < wr.heap.size := blk_lt B2.out
      have hcs : ∃ v, wr.cell? ⟨w.heap.size + 1, kk, none⟩ = some v := ⟨_, (blk_cell B1.out kk).trans (winCells_at p NN kk kk hlt)⟩
      obtain ⟨v0, hcs⟩ := hcs
      go_wp2_with fail
      go_region_with (go_at_fn g; refine (HC.out _ (by repeat (first | exact Below.refl _ _ | apply below_drew1))).mono ?_; rintro e w1 ⟨rfl, hb1⟩; obtain ⟨hc2, hf2⟩ : (∀ b o, b < wr.heap.size → w1.cell? ⟨b, o, none⟩ = wr.cell? ⟨b, o, none⟩) ∧ (∀ b o, b < wr.heap.size → w1.frozen? ⟨b, o, none⟩ = wr.frozen? ⟨b, o, none⟩) := ⟨fun b o h => hb1.cell (p := ⟨b, o, none⟩) h, fun b o h => hb1.frozen (p := ⟨b, o, none⟩) h⟩)
      all_goals
        go_wp2
        go_roundg (NN - (kk + 1))
        case measure => omega
        case rel =>
          have hb2 : Below wr.heap.size wr w1 := ⟨hb1.os, hb1.tape, hb1.output, hb1.size, hb1.block⟩
          refine ⟨kk + 1, by omega, by omega, by go_num, ⟨?_⟩, ⟨?_⟩, ⟨?_⟩, ⟨?_⟩⟩
          · repeat (first | exact below_set (below_then BW.out BW.out.size hb2) (by omega) | apply below_drew1)
          · repeat (first | exact blk_far (blk_below B0.out hb2) (by simp) _ | apply blk_drew)
          · rw [← winCells_step p NN kk hlt]
            repeat (first | exact blk_set (blk_below B1.out hb2) _ _ | apply blk_drew)
          · repeat (first | exact blk_far (blk_below B2.out hb2) (by simp) _ | apply blk_drew)
    · have hltz : ¬ (kk : Int) < (NN : Int) := by omega
      obtain rfl : kk = NN := by omega
      have hc1 : wr.cell? ⟨w.heap.size + 1 + 1, 0, none⟩ = some (.int .i64 a0) := (blk_cell B2.out 0).trans rfl
      have hc2 : wr.cell? ⟨w.heap.size + 1 + 1, 1, none⟩ = some (.slice (some ⟨w.heap.size + 1, 0, none⟩) kk kk) := (blk_cell B2.out 1).trans rfl
      have hc3 : wr.cell? ⟨w.heap.size, 0, none⟩ = some (.int .i64 0) := (blk_cell B0.out 0).trans rfl
      have hc4 : wr.cell? ⟨w.heap.size, 1, none⟩ = some (.slice none 0 0) := (blk_cell B0.out 1).trans rfl
      have hf3 := blk_frozen B0.out 0
      have hf4 := blk_frozen B0.out 1
      go_wp2
      refine bodyPost_ret (results_cell_row rfl _ _ w.heap.size 58 #[.int .i64 a0, .slice (some ⟨w.heap.size + 1, 0, none⟩) kk kk] (0, 0) _ rfl ?_ Try.underlying58 rfl (by kernel_rfl)) rfl ⟨_, rfl, own_win p ?_ (by omega) hN9, ?_⟩
      · exact blk_set (blk_set B0.out 0 _) 1 _
      · exact blk_far (blk_far B1.out (by simp) _) (by simp) _
      · exact below_set (below_set BW.out (Nat.le_refl _)) (Nat.le_refl _)


end Go.Proofs.Ytadlpnejkkblfaa.P
