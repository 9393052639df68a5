/- Plain facts of mine on printed functions: what they answer. No Go, no memory. -/
import Derived.Test.YthjnmfacdlgbbaaPx14
import Derived.Test.YthjnmfacdlgbbaaEv
import Derived.Test.YthjnmfacdlgbbaaF1
import Derived.Test.YthjnmfacdlgbbaaF2
import Derived.Test.YthjnmfacdlgbbaaF3
import Derived.Test.YthjnmfacdlgbbaaF4
import Derived.Test.YthjnmfacdlgbbaaF6
import Derived.Test.YthjnmfacdlgbbaaF9
import Derived.Test.YthjnmfacdlgbbaaPow
import Derived.Test.YthjnmfacdlgbbaaSame
import Derived.Test.YthjnmfacdlgbbaaSame
import Derived.Test.YthjnmfacdlgbbaaSame
import Derived.Test.YthjnmfacdlgbbaaSame
namespace Go.Proofs.Ythjnmfacdlgbbaa.P
open Go.RowKit Go.Proofs.YthjnmfacdlgbbaaW.PrintWords Go.Proofs.YthjnmfacdlgbbaaW.PrintLast Go.Proofs.YthjnmfacdlgbbaaW.PrintMore
set_option linter.unusedVariables false
set_option linter.unusedSimpArgs false

-- NEEDS Pow
theorem spec_pwCounts.ev (ws : List Bool) (n : Nat) (hN : ws.length = 2 ^ n) (h9 : n ≤ 9) : Ev (fun k => spec_pwCounts.f k ws (n : Int)) ((List.range n).map fun m => cntN (isSw ws m) (2 ^ n)) := by
  unfold spec_pwCounts.f
  have h := down (P := fun m => Ev (fun k => spec_pwCounts.l0 k ws (n : Int) ((List.range m).map fun m => cntN (isSw ws m) (2 ^ n)) (m : Int)) ((List.range n).map fun m => cntN (isSw ws m) (2 ^ n))) n ?_ ?_ 0 (Nat.zero_le _)
  · exact h
  · refine Ev.step (fun k => by rw [spec_pwCounts.l0]) ?_
    exact Ev.neg (by omega) (Ev.now _)
  · intro m hm ih
    refine Ev.step (fun k => by rw [spec_pwCounts.l0]) ?_
    refine Ev.pos (by omega) (Ev.bind (spec_pwSwings.ev ws n m hN h9 hm) (Ev.pos (by simp; omega) ?_))
    rw [wrap_next hm (by omega), swL_length, ← map_next (fun m => cntN (isSw ws m) (2 ^ n))]
    exact ih

-- NEEDS Same
theorem spec_SamePower.ev (q : Int) (l : List Int) (hn : l.length ≤ 9223372036854775807) : Ev (fun k => spec_SamePower.f k q l) (if goodC q l = true then (sameC q l, true) else ([], false)) := by
  unfold spec_SamePower.f
  refine Ev.bind (spec_voGood.ev q l hn) ?_
  cases h : goodC q l with
  | false => exact Ev.neg (by decide) (Ev.now _)
  | true =>
    obtain ⟨h1, h2, h3, h4, h5⟩ := goodC_iff.1 h
    exact Ev.pos rfl (Ev.bind (spec_voWins.ev q l h2 h3) (Ev.bind (spec_pwCounts.ev _ l.length (winsC_length q l) h2) (Ev.bind (spec_pwPivots.ev _ l.length (winsC_length q l) h2) (Ev.pos (by simp only [List.length_map, List.length_range]; omega) ((Ev.now _).cast rfl)))))

-- NEEDS Same
theorem impl_SamePower.ev (q : Int) (l : List Int) (hn : l.length ≤ 9223372036854775807) : Ev (fun k => impl_SamePower.f k q l) (if goodC q l = true then (sameC q l, true) else ([], false)) := by
  unfold impl_SamePower.f
  refine Ev.bind (impl_IsCommittee.ev q l hn) ?_
  cases h : goodC q l with
  | false => exact Ev.neg (by decide) (Ev.now _)
  | true =>
    obtain ⟨h1, h2, h3, h4, h5⟩ := goodC_iff.1 h
    exact Ev.pos rfl (Ev.one (impl_Committee_votes.eq h) (Ev.bind (impl_votes_swings.ev _ l.length (winsC_length q l) h2) (Ev.bind (impl_votes_pivots.ev _ l.length (winsC_length q l) h2) (Ev.pos (by simp only [List.length_map, List.length_range]; omega) ((Ev.now _).cast (by rw [Int.toNat_natCast, if_pos rfl]; rfl))))))

theorem laws_eqIntSS.ev (L : List (List Int)) (hL : L.length ≤ 9223372036854775807) (hr : ∀ s ∈ L, s.length ≤ 9223372036854775807) : Ev (fun k => laws_eqIntSS.f k L L) true := by
  unfold laws_eqIntSS.f
  have hrow : ∀ (i : Nat) (h : i < L.length), rd_L2 L (i : Int) = L[i] := fun i h => by simp [rd_L2, h]
  refine Ev.pos rfl ?_
  have h := down (P := fun i => Ev (fun k => laws_eqIntSS.l0 k L L (i : Int)) true) L.length ?_ ?_ 0 (Nat.zero_le _)
  · exact h
  · refine Ev.step (fun k => by rw [laws_eqIntSS.l0]) ?_
    exact Ev.neg (by omega) (Ev.now _)
  · intro i hi ih
    refine Ev.step (fun k => by rw [laws_eqIntSS.l0]) ?_
    rw [hrow i hi, wrap_next hi hL]
    exact Ev.pos (by omega) (Ev.pos (by omega) (Ev.pos (by omega) (Ev.bind (laws_eqIntS.ev L[i] (hr _ (List.getElem_mem hi))) (Ev.pos rfl ih))))

-- NEEDS Same
theorem laws_markIntSS.rows_ev : ∀ (L : List (List Int)) (a : Int), 0 ≤ a → a + lenR L ≤ 1000000000000 → Ev (fun k => laws_markIntSS.go k L a) (a + lenR L, rowsI a L)
  | [], a, _, _ => (Ev.now (a, ([] : List (List Int)))).cast (by simp [lenR, rowsI])
  | s :: r, a, h0, h1 => by
    have hs := lenR_nonneg r
    have e : lenR (s :: r) = (s.length : Int) + lenR r := rfl
    rw [e] at h1
    have hr := laws_markIntSS.rows_ev r (a + s.length) (by omega) (by omega)
    show Ev (fun k => (laws_markIntS.f k s a).bind fun p => (laws_markIntSS.go k r p.1).bind fun q => some (q.1, p.2 :: q.2)) _
    refine Ev.bind (laws_markIntS.ev s a h0 (by omega) (by omega)) (Ev.bind hr ((Ev.now _).cast ?_))
    rw [e, Int.add_assoc]
    rfl
theorem laws_markIntSS.fp_ev (L : List (List Int)) (a : Int) (h0 : 0 ≤ a) (h1 : a + lenR L ≤ 1000000000000) (hL : L.length ≤ 2000000) : Ev (fun k => laws_markIntSS.fp k L a) (a + lenR L, rowsI a L) := by
  unfold laws_markIntSS.fp
  exact Ev.pos hL (laws_markIntSS.rows_ev L a h0 h1)
theorem laws_markIntSS.ev (L : List (List Int)) (a : Int) (h0 : 0 ≤ a) (h1 : a + lenR L ≤ 1000000000000) (hL : L.length ≤ 2000000) : Ev (fun k => laws_markIntSS.f k L a) (a + lenR L) := by
  unfold laws_markIntSS.f
  exact Ev.bind (laws_markIntSS.fp_ev L a h0 h1 hL) (Ev.now _)
theorem laws_markIntSS.new_is (L : List (List Int)) (a : Int) (h0 : 0 ≤ a) (h1 : a + lenR L ≤ 1000000000000) (hL : L.length ≤ 2000000) : laws_markIntSS.new L a = rowsI a L := by
  obtain ⟨k, hk⟩ := laws_markIntSS.fp_ev L a h0 h1 hL
  exact laws_markIntSS.new_eq (hk k (Nat.le_refl _))

-- NEEDS Same
theorem laws_heldIntSS.ev (L : List (List Int)) (a : Int) (h0 : 0 ≤ a) (h1 : a + lenR L ≤ 1000000000000) (hL : L.length ≤ 2000000) (hr : ∀ s ∈ L, s.length ≤ 2000000) : Ev (fun k => laws_heldIntSS.f k (rowsI a L) a) (a + lenR L) := by
  unfold laws_heldIntSS.f
  have hl := rowsI_length a L
  have h := down (P := fun i => Ev (fun k => laws_heldIntSS.l0 k (rowsI a L) (a + lenR (L.take i)) (i : Int)) (a + lenR L)) L.length ?_ ?_ 0 (Nat.zero_le _)
  · simpa [lenR] using h
  · refine Ev.step (fun k => by rw [laws_heldIntSS.l0]) ?_
    rw [List.take_length]
    exact Ev.neg (by omega) (Ev.now _)
  · intro i hi ih
    refine Ev.step (fun k => by rw [laws_heldIntSS.l0]) ?_
    have hrow : rd_L2 (rowsI a L) (i : Int) = seqI (a + lenR (L.take i)) L[i].length := by simp [rd_L2, rowsI_at a L i hi]
    have h2 := lenR_take_le L i
    have h3 := lenR_nonneg (L.take i)
    have h4 := hr _ (List.getElem_mem hi)
    rw [lenR_take L i hi, ← Int.add_assoc] at ih
    rw [hrow, wrap_next hi (by omega)]
    exact Ev.pos (by omega) (Ev.pos (by omega) (Ev.bind (laws_heldIntS.ev L[i].length (a + lenR (L.take i)) (by omega) (by omega) (by omega)) (Ev.neg (by omega) ih)))

end Go.Proofs.Ythjnmfacdlgbbaa.P
