-- Functions and contracts: laid by a program of mine out of the translation. Not trusted: Lean checks it.
import Derived.Test.YtooepccceajakaaPx0
import Derived.Test.YtooepccceajakaaPx2
namespace Go.Proofs.Ytooepccceajakaa.P
open Go.RowKit Go.Proofs.YtooepccceajakaaW.PrintWords Go.Proofs.YtooepccceajakaaW.PrintLast Go.Proofs.YtooepccceajakaaW.PrintMore
attribute [local go_sem] max2_int min2_int max_two min_two max_three min_three max_four min_four   -- for this text's walks alone
set_option linter.unusedVariables false
set_option linter.unusedSimpArgs false

/-! ### impl_votesOf: function 83 -/
set_option maxHeartbeats 4000000 in
theorem impl_votesOf.hof (g : Nat) (lb : Array Value) (eg : ∀ args w, (callFunc g args).run Try.prog w = .ok (.enter g args) w) (p : Int → Bool) (a0 : Int) (ha : 0 ≤ a0) (hn : a0 ≤ 9) (w : World)
    (hp : ∀ (W : World) (x : Int), 0 ≤ x → x < 2 ^ a0.toNat → Below w.heap.size w W → Calls Try.prog g (#[.int .i64 x] ++ lb) W fun e w' => e = .returned (.bool (p x)) ∧ Below W.heap.size W w') :
    Calls Try.prog 83 #[.int .i64 a0, .func (.func g) #[] lb] w fun e w' => ∃ v : Value, e = .returned (.agg #[.int .i64 a0, v]) ∧ Kd.R Kd.bool 4 w' w.heap.size (fun _ => True) v ((List.range (2 ^ a0.toNat)).map fun (i : Nat) => p i) ∧ Below w.heap.size w w' := by
  have hu := Try.underlying54
  have HP := Aside0.mk hp
  clear hp
  obtain ⟨NN, hNN⟩ : ∃ NN : Nat, NN = 2 ^ a0.toNat := ⟨_, rfl⟩
  have hN9 : NN ≤ 512 := by rw [hNN]; exact Nat.pow_le_pow_right (n := 2) (by omega) (show a0.toNat ≤ 9 by omega)
  have hN0 : 1 ≤ NN := by rw [hNN]; exact Nat.one_le_two_pow
  have hs : (shl .i64 1 a0) = (NN : Int) := by
    unfold shl
    rw [show min a0.toNat IntKind.i64.bits = a0.toNat by have : IntKind.i64.bits = 64 := rfl; omega]
    rw [i64_w, Int.one_mul, hNN]
    have : ((2 ^ a0.toNat : Nat) : Int) = 2 ^ a0.toNat := by simp
    rw [← this, ← hNN]
    exact wrap_id (by omega) (by omega)
  have c2b0 := eq_true ha
  have c2b1 : decide (0 ≤ a0) = true := decide_eq_true ha
  have hji3_ : (IntKind.i64.wrap (1 * 2 ^ min a0.toNat 64)) = (NN : Int) := hs
  have hji3z : a0 ≤ 64 → (IntKind.i64.wrap (1 * 2 ^ a0.toNat)) = (NN : Int) := shl_small hs
  have hji3u : (IntKind.i64.wrap (2 ^ min a0.toNat 64)) = (NN : Int) := by have h_ := hji3_; rw [Int.one_mul] at h_; exact h_
  have hji3v : a0 ≤ 64 → (IntKind.i64.wrap (2 ^ a0.toNat)) = (NN : Int) := fun hle_ => by have h_ := hji3z hle_; rw [Int.one_mul] at h_; exact h_
  have hji3y : (wrap64 (1 * 2 ^ min a0.toNat 64)) = (NN : Int) := (i64_w _).symm.trans hji3_
  have hji3x : a0 ≤ 64 → (wrap64 (1 * 2 ^ a0.toNat)) = (NN : Int) := fun h_ => (i64_w _).symm.trans (hji3z h_)
  rw [← hNN]
  clear ha
  have HN := Aside0.mk hNN
  clear hNN hs
  have hmk := print_make_of (P := Try.prog) 52 4 (.bool false) 1 Try.underlying52 info4 rfl (by decide) NN (by omega)
  go_enter Try.func83, Try.ntmps83
  go_wp2_with fail
  go_loopg [15] NN (fun gg s15 wr => ∃ kk : Nat, kk ≤ NN ∧ NN - kk ≤ gg ∧ s15 = .int .i64 kk ∧ Aside0 (Below w.heap.size w wr) ∧ Aside0 (wr.heap[w.heap.size]? = some (.cells #[.int .i64 0, .slice none 0 0] 54 (0, 0))) ∧ Aside0 (wr.heap[w.heap.size + 1]? = some (.cells (winCells p NN kk) 4 (0, 0))) ∧ Aside0 (wr.heap[w.heap.size + 1 + 1]? = some (.cells #[.int .i64 a0, .slice (some ⟨w.heap.size + 1, 0, none⟩) NN NN] 54 (0, 0))))
  case atStart =>
    refine ⟨0, Nat.zero_le _, by omega, rfl, ⟨Joins.below_alloc3 w _ _ _⟩, ⟨?_⟩, ⟨?_⟩, ⟨?_⟩⟩
    · exact (three_blocks w _ _ _).1
    · rw [← winCells_zero]
      exact (three_blocks w _ _ _).2.1
    · exact (three_blocks w _ _ _).2.2
  case round =>
    obtain ⟨kk, hkk, hg, rfl, BW, B0, B1, B2⟩ := hrel
    by_cases hlt : kk < NN
    · have hltz : (kk : Int) < (NN : Int) := by omega
      have hcall : ∀ W, Below wr.heap.size wr W → Calls Try.prog g (#[.int .i64 (kk : Int)] ++ lb) W fun e w' => e = .returned (.bool (p kk)) ∧ Below W.heap.size W w' := fun W hW =>
        HP.out W kk (by omega) (by have := HN.out; have h2 : ((2 ^ a0.toNat : Nat) : Int) = 2 ^ a0.toNat := by simp
                                   omega) (below_then BW.out BW.out.size hW)
      have HC := Aside0.mk hcall
      clear hcall
      have hc1 : wr.cell? ⟨w.heap.size + 1 + 1, 1, none⟩ = some (.slice (some ⟨w.heap.size + 1, 0, none⟩) NN NN) := (blk_cell B2.out 1).trans rfl
      have hf1 := blk_frozen B1.out kk
      have hs1 : w.heap.size + 1 < wr.heap.size := blk_lt B1.out
      have hs2 : w.heap.size + 1 + 1 < wr.heap.size := blk_lt B2.out
      have hcs : ∃ v, wr.cell? ⟨w.heap.size + 1, kk, none⟩ = some v := ⟨_, (blk_cell B1.out kk).trans (winCells_at p NN kk kk hlt)⟩
      obtain ⟨v0, hcs⟩ := hcs
      go_wp2_with fail
      go_region_with (go_at_fn g; refine (HC.out _ (by repeat (first | exact Below.refl _ _ | apply below_drew1))).mono ?_; rintro e w1 ⟨rfl, hb1⟩; obtain ⟨hc2, hf2⟩ : (∀ b o, b < wr.heap.size → w1.cell? ⟨b, o, none⟩ = wr.cell? ⟨b, o, none⟩) ∧ (∀ b o, b < wr.heap.size → w1.frozen? ⟨b, o, none⟩ = wr.frozen? ⟨b, o, none⟩) := ⟨fun b o h => hb1.cell (p := ⟨b, o, none⟩) h, fun b o h => hb1.frozen (p := ⟨b, o, none⟩) h⟩)
      all_goals
        go_wp2
        go_roundg (NN - (kk + 1))
        case measure => omega
        case rel =>
          have hb2 : Below wr.heap.size wr w1 := ⟨hb1.os, hb1.tape, hb1.output, hb1.size, hb1.block⟩
          refine ⟨kk + 1, by omega, by omega, by go_num, ⟨?_⟩, ⟨?_⟩, ⟨?_⟩, ⟨?_⟩⟩
          · repeat (first | exact below_set (below_then BW.out BW.out.size hb2) (by omega) | apply below_drew1)
          · repeat (first | exact blk_far (blk_below B0.out hb2) (by simp) _ | apply blk_drew)
          · rw [← winCells_step p NN kk hlt]
            repeat (first | exact blk_set (blk_below B1.out hb2) _ _ | apply blk_drew)
          · repeat (first | exact blk_far (blk_below B2.out hb2) (by simp) _ | apply blk_drew)
    · have hltz : ¬ (kk : Int) < (NN : Int) := by omega
      obtain rfl : kk = NN := by omega
      have hc1 : wr.cell? ⟨w.heap.size + 1 + 1, 0, none⟩ = some (.int .i64 a0) := (blk_cell B2.out 0).trans rfl
      have hc2 : wr.cell? ⟨w.heap.size + 1 + 1, 1, none⟩ = some (.slice (some ⟨w.heap.size + 1, 0, none⟩) kk kk) := (blk_cell B2.out 1).trans rfl
      have hc3 : wr.cell? ⟨w.heap.size, 0, none⟩ = some (.int .i64 0) := (blk_cell B0.out 0).trans rfl
      have hc4 : wr.cell? ⟨w.heap.size, 1, none⟩ = some (.slice none 0 0) := (blk_cell B0.out 1).trans rfl
      have hf3 := blk_frozen B0.out 0
      have hf4 := blk_frozen B0.out 1
      go_wp2
      refine bodyPost_ret (results_cell_row rfl _ _ w.heap.size 54 #[.int .i64 a0, .slice (some ⟨w.heap.size + 1, 0, none⟩) kk kk] (0, 0) _ rfl ?_ Try.underlying54 rfl (by kernel_rfl)) rfl ⟨_, rfl, own_win p ?_ (by omega) hN9, ?_⟩
      · exact blk_set (blk_set B0.out 0 _) 1 _
      · exact blk_far (blk_far B1.out (by simp) _) (by simp) _
      · exact below_set (below_set BW.out (Nat.le_refl _)) (Nat.le_refl _)


-- NOT PRINTED: function 84 (impl_Committee_votes_1)

/-! ### impl_Committee_votes: function 52 -/
def impl_Committee_votes.f (a0_0 : Int) (l0_1 : List Int) : Option (Int × List Bool) := if l0_1.length ≤ 9 ∧ l0_1.all (inB 0 1000) = true then some ((l0_1.length : Int), winsC a0_0 l0_1) else none
set_option maxHeartbeats 1000000 in
theorem impl_Committee_votes.lit (B : Nat) (q : Int) (A : Option Addr) (c : Nat) (l : List Int) (h9 : l.length ≤ 9) (hB : ∀ x ∈ l, 0 ≤ x ∧ x ≤ 1000) (w : World)
    (hblk : w.heap[B]? = some (.cells #[.int .i64 q, .slice A l.length c] 28 (0, 0))) (hr : Kd.C (Kd.int .i64) w A l.length l) (hc : l.length ≤ c) :
    ∀ (W : World) (x : Int), 0 ≤ x → x < 2 ^ (l.length : Int).toNat → Below w.heap.size w W → Calls Try.prog 84 (#[.int .i64 x] ++ #[.pointer (some ⟨B, 0, none⟩)]) W fun e w' => e = .returned (.bool (decide (q ≤ wt l x.toNat))) ∧ Below W.heap.size W w' := by
  intro W x hx0 hx1 hb
  obtain ⟨m, rfl⟩ := Int.eq_ofNat_of_zero_le hx0
  have hm : m < 2 ^ 63 := by
    have e : ((2 : Int) ^ (l.length : Int).toNat) = ((2 ^ l.length : Nat) : Int) := by simp
    have h1 := pow9 h9
    omega
  obtain ⟨k, hk⟩ := (impl_Committee_weight.ev q l m h9 hB hm).rounds
  have hblk' : W.heap[B]? = some (.cells #[.int .i64 q, .slice A l.length c] 28 (0, 0)) := blk_below hblk hb
  have hC : ∀ W', Below W.heap.size W W' → Calls Try.prog 71 #[.agg #[.int .i64 q, .slice A l.length c], .int .i64 (m : Int)] W' fun e w' => e = .returned (.int .i64 (wt l m)) ∧ Below W'.heap.size W' w' := fun W' hW =>
    impl_Committee_weight.calls k q A c l m _ W' (Kd.C_below (Kd.C_below hr hb) hW) hc hk
  have hlt := blk_lt hblk'
  have hc0 : W.cell? ⟨B, 0, none⟩ = some (.int .i64 q) := (blk_cell hblk' 0).trans rfl
  have hc1 : W.cell? ⟨B, 1, none⟩ = some (.slice A l.length c) := (blk_cell hblk' 1).trans rfl
  rw [Int.toNat_natCast]
  have HC := Aside0.mk hC
  clear hC hk hb hblk hblk' hr hx0 hx1 hm hB h9
  generalize wt l m = s at HC ⊢
  show Calls Try.prog 84 #[.int .i64 (m : Int), .pointer (some ⟨B, 0, none⟩)] W _
  have hu := Try.underlying28
  go_enter Try.func84, Try.ntmps84
  go_wp2_with fail
  go_region_with (go_at_call 71; refine (HC.out _ (by repeat (first | exact Below.refl _ _ | apply below_drew1))).mono ?_; rintro e w1 ⟨rfl, hb1⟩; obtain ⟨hc2, hf2⟩ : (∀ b o, b < W.heap.size → w1.cell? ⟨b, o, none⟩ = W.cell? ⟨b, o, none⟩) ∧ (∀ b o, b < W.heap.size → w1.frozen? ⟨b, o, none⟩ = W.frozen? ⟨b, o, none⟩) := ⟨fun b o h => hb1.cell (p := ⟨b, o, none⟩) h, fun b o h => hb1.frozen (p := ⟨b, o, none⟩) h⟩)
  all_goals
    go_wp2
    go_ret
    refine ⟨rfl, ?_⟩
    have hb2 : Below W.heap.size W w1 := ⟨hb1.os, hb1.tape, hb1.output, hb1.size, hb1.block⟩
    repeat (first | exact hb2 | apply below_drew1)
set_option maxHeartbeats 2000000 in
theorem impl_Committee_votes.calls (a0_0 : Int) (A0_1 : Option Addr) (c0_1 : Nat) (l0_1 : List Int) (r1 : Int) (r2 : List Bool) (w : World) (hr0_1 : Kd.C (Kd.int .i64) w A0_1 l0_1.length l0_1) (hc0_1 : l0_1.length ≤ c0_1) (h : impl_Committee_votes.f a0_0 l0_1 = some (r1, r2)) :
    Calls Try.prog 52 #[.agg #[.int .i64 a0_0, .slice A0_1 l0_1.length c0_1]] w fun e w' => ∃ v1_ : Value, e = .returned (.agg #[.int .i64 r1, v1_]) ∧ Kd.R Kd.bool 4 w' w.heap.size (fun _ => True) v1_ r2 ∧ Below w.heap.size w w' := by
  unfold impl_Committee_votes.f at h
  split at h
  case isFalse => cases h
  rename_i hg
  obtain ⟨h9, hall⟩ := hg
  simp only [Option.some.injEq, Prod.mk.injEq] at h
  obtain ⟨rfl, rfl⟩ := h
  have hB : ∀ x ∈ l0_1, 0 ≤ x ∧ x ≤ 1000 := fun x hx => inB_iff.1 (all_mem.1 hall x hx)
  have hu := Try.underlying28
  have hu2 := Try.underlying54
  have hW : Below w.heap.size w ((w.alloc (.cells #[.int .i64 a0_0, .slice A0_1 l0_1.length c0_1] 28)).alloc (.cells #[.int .i64 0, .slice none 0 0] 54)) := Joins.below_alloc2 w _ _
  have e1 : ((w.alloc (.cells #[.int .i64 a0_0, .slice A0_1 l0_1.length c0_1] 28)).alloc (.cells #[.int .i64 0, .slice none 0 0] 54)).heap[w.heap.size]? = some (.cells #[.int .i64 a0_0, .slice A0_1 l0_1.length c0_1] 28 (0, 0)) := blk_alloc (blk_new w _) _
  have e2 : ((w.alloc (.cells #[.int .i64 a0_0, .slice A0_1 l0_1.length c0_1] 28)).alloc (.cells #[.int .i64 0, .slice none 0 0] 54)).heap[w.heap.size + 1]? = some (.cells #[.int .i64 0, .slice none 0 0] 54 (0, 0)) := by
    have h := blk_new (w.alloc (.cells #[.int .i64 a0_0, .slice A0_1 l0_1.length c0_1] 28)) (.cells #[.int .i64 0, .slice none 0 0] 54)
    rwa [show (w.alloc (.cells #[.int .i64 a0_0, .slice A0_1 l0_1.length c0_1] 28)).heap.size = w.heap.size + 1 by simp] at h
  have hcall := impl_votesOf.hof 84 #[.pointer (some ⟨w.heap.size, 0, none⟩)] (enters_of Try.func84 (by kernel_rfl) rfl) _ (l0_1.length : Int) (by omega) (by omega) _
    (impl_Committee_votes.lit w.heap.size a0_0 A0_1 c0_1 l0_1 h9 hB _ e1 (Kd.C_below hr0_1 hW) hc0_1)
  have ew : ((List.range (2 ^ (l0_1.length : Int).toNat)).map fun (i : Nat) => (fun x : Int => decide (a0_0 ≤ wt l0_1 x.toNat)) (i : Int)) = winsC a0_0 l0_1 := by simp [winsC]
  rw [ew] at hcall
  generalize winsC a0_0 l0_1 = ws at hcall ⊢
  have H := Aside0.mk hcall
  have E2 := Aside0.mk e2
  have HW := Aside0.mk hW
  clear hcall e1 e2 hW hr0_1 ew hB hall
  have hmf : ∀ (fn : Fn) (first cap : Array Value) (w : World), (Instr.makeFunc fn first cap).run Try.prog w = .ok (.func fn first cap) w := fun _ _ _ _ => rfl
  go_enter Try.func52, Try.ntmps52
  go_wp2_with (go_at_call 83; refine H.out.mono ?_; rintro e w1 ⟨v, rfl, HR, hb1⟩; have B2 := Aside0.mk (blk_below E2.out hb1); have hs1 := blk_lt B2.out; have hcz0 : w1.cell? ⟨w.heap.size + 1, 0, none⟩ = some (.int .i64 0) := (blk_cell B2.out 0).trans rfl; have hcz1 : w1.cell? ⟨w.heap.size + 1, 1, none⟩ = some (.slice none 0 0) := (blk_cell B2.out 1).trans rfl; have hfz0 := blk_frozen B2.out 0; have hfz1 := blk_frozen B2.out 1; obtain ⟨A9, c9, rfl⟩ := Kd.R_slice HR; have HR' := Aside0.mk HR; have HB' := Aside0.mk hb1; clear HR hb1)
  refine bodyPost_ret (results_cell_row rfl _ _ (w.heap.size + 1) 54 #[.int .i64 (l0_1.length : Int), .slice A9 ws.length c9] (0, 0) _ rfl ?_ Try.underlying54 rfl (by kernel_rfl)) rfl ⟨_, rfl, ?_, ?_⟩
  · exact blk_set (blk_set B2.out 0 _) 1 _
  · exact Kd.R_mono (Kd.R_far (p := ⟨w.heap.size + 1, 1, none⟩) (Kd.R_far (p := ⟨w.heap.size + 1, 0, none⟩) (Kd.R_types (Kd.R_lower HR'.out (by simp; omega)) B2.out (by decide)) (fun _ hk => hk.2) _) (fun _ hk => hk.2) _) (fun _ _ => trivial)
  · exact below_set (below_set (below_then HW.out HW.out.size HB'.out) (by omega)) (by omega)


end Go.Proofs.Ytooepccceajakaa.P
