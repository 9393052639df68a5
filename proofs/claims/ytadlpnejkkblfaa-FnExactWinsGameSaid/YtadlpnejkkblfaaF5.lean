/- Plain facts of mine on printed functions: what they answer. No Go, no memory. -/
import Derived.Test.YtadlpnejkkblfaaPx5
import Derived.Test.YtadlpnejkkblfaaEv
import Derived.Test.YtadlpnejkkblfaaF2
import Derived.Test.YtadlpnejkkblfaaF3
import Derived.Test.YtadlpnejkkblfaaGame
import Derived.Test.YtadlpnejkkblfaaGame
import Derived.Test.YtadlpnejkkblfaaGame
import Derived.Test.YtadlpnejkkblfaaGame
namespace Go.Proofs.Ytadlpnejkkblfaa.P
open Go.RowKit Go.Proofs.YtadlpnejkkblfaaW.PrintWords Go.Proofs.YtadlpnejkkblfaaW.PrintLast Go.Proofs.YtadlpnejkkblfaaW.PrintMore
set_option linter.unusedVariables false
set_option linter.unusedSimpArgs false

-- NEEDS Game
theorem spec_gmWins.ev (n : Nat) (L : List (List Int)) (h : gameOK (n : Int) L = true) (hr : ∀ s ∈ L, s.length ≤ 9223372036854775807) : Ev (fun k => spec_gmWins.f k (n : Int) L) (winsGL n L) := by
  obtain ⟨h1, h2, h3, h4, h5⟩ := gameOK_iff h
  have hp := pow9 (n := n) (by omega)
  have hrow : ∀ (i : Nat) (h : i < L.length), rd_L1 L (i : Int) = L[i] := fun i h => by simp [rd_L1, h]
  unfold spec_gmWins.f
  have e0 : wrap64 (((2 ^ n - 1 : Nat) : Int) + 1) = ((2 ^ n : Nat) : Int) := by
    rw [wrap_id (by omega) (by omega)]
    omega
  refine Ev.one (spec_voAll.eq (by omega)) ?_
  rw [e0, Int.toNat_natCast]
  refine Ev.pos (by omega) (Ev.pos (by omega) (Ev.one (a := List.replicate (2 ^ n) false) rfl ?_))
  rw [List.length_replicate, ← fillB_zero (winsG L)]
  have hl := fillB_length (winsG L) (2 ^ n)
  have hd := down (P := fun i => Ev (fun k => spec_gmWins.l0 k L (fillB (winsG L) (2 ^ n) i false) ((2 ^ n : Nat) : Int) (i : Int)) (winsGL n L)) (2 ^ n) ?_ ?_ 0 (Nat.zero_le _)
  · exact hd
  · refine Ev.step (fun k => by rw [spec_gmWins.l0]) ?_
    exact Ev.neg (by omega) ((Ev.now _).cast (fillB_end _ _ _))
  · intro i hi ih
    refine Ev.step (fun k => by rw [spec_gmWins.l0]) ?_
    refine Ev.pos (by omega) ?_
    have hd := down (P := fun c => Ev (fun k => spec_gmWins.l1 k L (fillB (winsG L) (2 ^ n) i ((L.take c).any fun s => decide (i &&& maskL s = maskL s))) (i : Int) ((2 ^ n : Nat) : Int) (i : Int) L (L.length : Int) (c : Int)) (winsGL n L)) L.length ?_ ?_ 0 (Nat.zero_le _)
    · exact hd
    · refine Ev.step (fun k => by rw [spec_gmWins.l1]) ?_
      refine Ev.neg (by omega) ?_
      rw [List.take_length, show (L.any fun s => decide (i &&& maskL s = maskL s)) = winsG L i from rfl, fillB_next, wrap_next hi (by omega)]
      exact ih
    · intro c hc ihc
      refine Ev.step (fun k => by rw [spec_gmWins.l1]) ?_
      have hs := (rowsOK_at h3 (List.getElem_mem hc)).2
      have h7 := mask_512 h2 hs
      have e1 : ((L.take (c + 1)).any fun s => decide (i &&& maskL s = maskL s)) = (((L.take c).any fun s => decide (i &&& maskL s = maskL s)) || decide (i &&& maskL L[c] = maskL L[c])) := by
        rw [List.take_succ_eq_append_getElem hc, List.any_append]
        simp
      rw [hrow c hc, wrap_next hc (by omega), Int.toNat_natCast]
      refine Ev.pos (by omega) (Ev.pos (by omega) (Ev.pos (by omega) (Ev.bind (spec_voBits.ev L[c] (fun x hx => by have := setOK_in hs x hx; omega) (hr _ (List.getElem_mem hc))) (Ev.pos (by omega) (Ev.pos (by rw [hl]; omega) ?_)))))
      rw [fillB_at hi, fillB_set hi, fillB_set hi]
      rw [e1] at ihc
      cases hb : ((L.take c).any fun s => decide (i &&& maskL s = maskL s)) with
      | true =>
        rw [hb] at ihc
        exact Ev.pos rfl ihc
      | false =>
        rw [hb, Bool.false_or] at ihc
        have e2 : (Go.bits .and .i64 (i : Int) ((maskL L[c] : Nat) : Int) == ((maskL L[c] : Nat) : Int)) = decide (i &&& maskL L[c] = maskL L[c]) := by
          rw [and_nat (by omega) (by omega), Bool.eq_iff_iff, beq_iff_eq, decide_eq_true_eq]
          omega
        rw [e2]
        exact Ev.neg (by decide) ihc

-- NEEDS Game
theorem spec_gmAll.ev (n : Int) (L : List (List Int)) (h : gameOK n L = true) (hr : ∀ s ∈ L, s.length ≤ 9223372036854775807) : Ev (fun k => spec_gmAll.f k n L) (winsGL n.toNat L) := by
  obtain ⟨h1, h2, h3, h4, h5⟩ := gameOK_iff h
  obtain ⟨m, rfl⟩ := Int.eq_ofNat_of_zero_le (show 0 ≤ n by omega)
  unfold spec_gmAll.f
  rw [Int.toNat_natCast]
  exact Ev.bind (spec_gmWins.ev m L h hr) (Ev.now _)

-- NEEDS Game
theorem impl_votesBy.ev (n : Int) (L : List (List Int)) (h : gameOK n L = true) (hr : ∀ s ∈ L, s.length ≤ 9223372036854775807) : Ev (fun k => impl_votesBy.f k n L) (n, winsGL n.toNat L) := by
  obtain ⟨h1, h2, h3, h4, h5⟩ := gameOK_iff h
  obtain ⟨K, hK⟩ := Ev.each (fun k s => impl_maskOf.f k s) (fun s => ((maskL s : Nat) : Int)) L (fun s hs => impl_maskOf.ev s (fun x hx => by have := setOK_in (rowsOK_at h3 hs).2 x hx; omega) (hr s hs))
  refine ⟨K, fun k hk => ?_⟩
  have h6 := hK k hk
  show impl_votesBy.f k n L = some (n, winsGL n.toNat L)
  unfold impl_votesBy.f
  rw [if_pos ⟨by omega, h2, by omega, List.all_eq_true.2 fun s hs => by rw [h6 s hs]; rfl⟩]
  have e : impl_votesBy.ms k L = L.map fun s => ((maskL s : Nat) : Int) := List.map_congr_left (fun s hs => by rw [h6 s hs]; rfl)
  rw [e]
  congr 2
  unfold byW winsGL
  refine List.map_congr_left (fun i hi => ?_)
  have hi2 : i < 512 := Nat.lt_of_lt_of_le (List.mem_range.1 hi) (pow9 (by omega)).2
  unfold byP winsG
  rw [List.any_map]
  refine any_same (fun s hs => ?_)
  have h7 := mask_512 h2 (rowsOK_at h3 hs).2
  show (Go.bits .and .i64 (i : Int) ((maskL s : Nat) : Int) == ((maskL s : Nat) : Int)) = _
  rw [and_nat (by omega) (by omega), Bool.eq_iff_iff, beq_iff_eq, decide_eq_true_eq]
  omega

-- NEEDS Game
theorem impl_Game_votes.ev (n : Int) (L : List (List Int)) (h : gameOK n L = true) (hr : ∀ s ∈ L, s.length ≤ 9223372036854775807) : Ev (fun k => impl_Game_votes.f k n L) (n, winsGL n.toNat L) := by
  unfold impl_Game_votes.f
  exact Ev.bind (impl_votesBy.ev n L h hr) (Ev.now _)

end Go.Proofs.Ytadlpnejkkblfaa.P
