/- Plain facts of mine on printed functions: what they answer. No Go, no memory. -/
import Derived.Test.YtbjgdbgaopgbjaaPx31
import Derived.Test.YtbjgdbgaopgbjaaEv
import Derived.Test.YtbjgdbgaopgbjaaF1
import Derived.Test.YtbjgdbgaopgbjaaF2
import Derived.Test.YtbjgdbgaopgbjaaF4
import Derived.Test.YtbjgdbgaopgbjaaF6
import Derived.Test.YtbjgdbgaopgbjaaF8
import Derived.Test.YtbjgdbgaopgbjaaF14
import Derived.Test.YtbjgdbgaopgbjaaPow
import Derived.Test.YtbjgdbgaopgbjaaPow
namespace Go.Proofs.Ytbjgdbgaopgbjaa.P
open Go.RowKit Go.Proofs.YtbjgdbgaopgbjaaW.PrintWords Go.Proofs.YtbjgdbgaopgbjaaW.PrintLast Go.Proofs.YtbjgdbgaopgbjaaW.PrintMore
set_option linter.unusedVariables false
set_option linter.unusedSimpArgs false

theorem spec_pwMember.ev (q : Int) (l : List Int) (d : Int) (hn : l.length ≤ 9223372036854775807) : Ev (fun k => spec_pwMember.f k q l d) (goodC q l && inB 0 ((l.length : Int) - 1) d) := by
  unfold spec_pwMember.f
  refine Ev.bind (spec_voGood.ev q l hn) ?_
  cases h : goodC q l with
  | false => exact Ev.neg (by decide) (Ev.now _)
  | true =>
    rw [wrap_id (by omega) (by omega)]
    exact Ev.pos rfl (Ev.one (spec_l1In.eq _ _ _) ((Ev.now _).cast (by simp)))

-- NEEDS Pow
theorem spec_SwingsBySize.loop (ws : List Bool) (n m : Nat) (hN : ws.length = 2 ^ n) (h9 : n ≤ 9) (hm : m < n) : Ev (fun k => spec_SwingsBySize.l0 k (List.replicate n 0) (swL ws m (2 ^ n)) ((swL ws m (2 ^ n)).length : Int) 0) (sizesL ws n m (2 ^ n), true) := by
  have hp := pow9 h9
  have hL : ∀ x ∈ (List.range (2 ^ n)).filter (isSw ws m), x < 2 ^ n ∧ popc x < n := fun x hx => by
    have h1 := List.mem_filter.1 hx
    have h2 : x < 2 ^ n := by simpa using h1.1
    have h3 := h1.2
    simp only [isSw, Bool.and_eq_true, Bool.not_eq_true'] at h3
    exact ⟨h2, popc_sw h9 hm h2 h3.1.1⟩
  have hl := filter_len (isSw ws m) (2 ^ n)
  have hs : sizesL ws n m (2 ^ n) = (List.range n).map fun s => ((((List.range (2 ^ n)).filter (isSw ws m)).filter fun x => decide (popc x = s)).length : Int) := by
    unfold sizesL cntN sizeF
    apply List.map_congr_left
    intro s _
    rw [List.filter_filter]
    congr 3
    funext x
    exact Bool.and_comm _ _
  rw [hs]
  unfold swL
  generalize (List.range (2 ^ n)).filter (isSw ws m) = L at hL hl
  rw [List.length_map]
  have h := down (P := fun i => Ev (fun k => spec_SwingsBySize.l0 k ((List.range n).map fun s => (((L.take i).filter fun x => decide (popc x = s)).length : Int)) (L.map fun (x : Nat) => (x : Int)) (L.length : Int) (i : Int)) ((List.range n).map fun s => ((L.filter fun x => decide (popc x = s)).length : Int), true)) L.length ?_ ?_ 0 (Nat.zero_le _)
  · have e : ((List.range n).map fun s => (((L.take 0).filter fun x => decide (popc x = s)).length : Int)) = List.replicate n 0 := by
      apply List.ext_getElem
      · simp
      · intro i h1 h2; simp
    rw [e] at h
    exact h
  · refine Ev.step (fun k => by rw [spec_SwingsBySize.l0]) ?_
    exact Ev.neg (by omega) ((Ev.now _).cast (by rw [List.take_length]))
  · intro i hi ih
    refine Ev.step (fun k => by rw [spec_SwingsBySize.l0]) ?_
    obtain ⟨hx1, hx2⟩ := hL L[i] (List.getElem_mem hi)
    refine Ev.pos (by omega) (Ev.pos (by omega) (Ev.pos (by rw [List.length_map]; omega) ?_))
    rw [rd_nat (by rw [List.length_map]; exact hi), List.getElem_map, wrap_next hi (by omega)]
    refine Ev.bind (spec_voList.ev h9 hx1) ?_
    have e : (((bitsL L[i]).map fun (x : Nat) => (x : Int)).length : Int) = (popc L[i] : Int) := by simp [popc]
    rw [e]
    refine Ev.pos (by omega) (Ev.pos (by simp; omega) ?_)
    have e2 : ((List.range n).map fun s => (((L.take i).filter fun x => decide (popc x = s)).length : Int)).set (popc L[i]) (wrap64 (rd ((List.range n).map fun s => (((L.take i).filter fun x => decide (popc x = s)).length : Int)) (popc L[i] : Int) + 1)) = (List.range n).map fun s => (((L.take (i + 1)).filter fun x => decide (popc x = s)).length : Int) := by
      rw [rd_map hx2]
      have h4 := List.length_filter_le (fun x => decide (popc x = popc L[i])) (L.take i)
      rw [List.length_take] at h4
      refine map_set ?_ ?_
      · rw [wrap_id (by omega) (by omega), List.take_succ_eq_append_getElem hi, List.filter_append, List.length_append]
        simp
      · intro s hs
        rw [List.take_succ_eq_append_getElem hi, List.filter_append, List.length_append]
        simp [show ¬ popc L[i] = s from fun h => hs h.symm]
    rw [Int.toNat_natCast, e2]
    exact ih
theorem spec_SwingsBySize.ev (q : Int) (l : List Int) (d : Int) (hn : l.length ≤ 9223372036854775807) (hk0 : -9223372036854775808 ≤ d) (hk1 : d ≤ 9223372036854775807) : Ev (fun k => spec_SwingsBySize.f k q l d) (if (goodC q l && inB 0 ((l.length : Int) - 1) d) = true then (sizesC q l d.toNat, true) else ([], false)) := by
  unfold spec_SwingsBySize.f
  refine Ev.bind (spec_pwMember.ev q l d hn) ?_
  cases h : (goodC q l && inB 0 ((l.length : Int) - 1) d) with
  | false => exact Ev.neg (by decide) (Ev.now _)
  | true =>
    rw [Bool.and_eq_true, inB_iff] at h
    obtain ⟨h1, h2, h3, h4, h5⟩ := goodC_iff.1 h.1
    obtain ⟨m, rfl⟩ := Int.eq_ofNat_of_zero_le h.2.1
    rw [Int.toNat_natCast, Int.toNat_natCast]
    exact Ev.pos rfl (Ev.pos (by omega) (Ev.pos (by omega) (Ev.bind (spec_voWins.ev q l h2 h3) (Ev.bind (spec_pwSwings.ev _ l.length m (winsC_length q l) h2 (by omega)) (spec_SwingsBySize.loop _ l.length m (winsC_length q l) h2 (by omega))))))

-- NEEDS Pow
theorem impl_SwingsBySize.loop (ws : List Bool) (n m : Nat) (hN : ws.length = 2 ^ n) (h9 : n ≤ 9) (hm : m < n) : Ev (fun k => impl_SwingsBySize.l0 k (m : Int) (List.replicate n 0) (ws.length : Int) 0 (n : Int) ws) (sizesL ws n m (2 ^ n), true) := by
  have hp := pow9 h9
  have h := down (P := fun i => Ev (fun k => impl_SwingsBySize.l0 k (m : Int) (sizesL ws n m i) (ws.length : Int) (i : Int) (n : Int) ws) (sizesL ws n m (2 ^ n), true)) (2 ^ n) ?_ ?_ 0 (Nat.zero_le _)
  · have e : sizesL ws n m 0 = List.replicate n 0 := by
      apply List.ext_getElem
      · simp [sizesL]
      · intro i h1 h2; simp [sizesL, cntN]
    rw [e] at h
    exact h
  · refine Ev.step (fun k => by rw [impl_SwingsBySize.l0]) ?_
    exact Ev.neg (by omega) (Ev.now _)
  · intro i hi ih
    refine Ev.step (fun k => by rw [impl_SwingsBySize.l0]) ?_
    refine Ev.pos (by omega) (Ev.one (impl_votes_isSwing.eq ws n m i _ hN h9 hm hi) ?_)
    rw [wrap_next hi (by omega)]
    cases hb : isSw ws m i with
    | true =>
      have h3 := hb
      simp only [isSw, Bool.and_eq_true, Bool.not_eq_true'] at h3
      have hx2 := popc_sw h9 hm hi h3.1.1
      refine Ev.pos rfl (Ev.one (impl_count.eq h9 hi) (Ev.pos (by omega) (Ev.pos (by simp [sizesL]; omega) ?_)))
      have e2 : (sizesL ws n m i).set (popc i) (wrap64 (rd (sizesL ws n m i) (popc i : Int) + 1)) = sizesL ws n m (i + 1) := by
        have h4 := cntN_le (sizeF ws m (popc i)) i
        unfold sizesL
        rw [rd_map hx2]
        refine map_set ?_ ?_
        · rw [wrap_id (by omega) (by omega), cntN_pos (show sizeF ws m (popc i) i = true by rw [sizeF, hb, decide_eq_true rfl]; rfl)]
        · intro s hs
          rw [cntN_neg (show sizeF ws m s i = false by rw [sizeF, decide_eq_false (fun h => hs h.symm), Bool.and_false])]
      rw [Int.toNat_natCast, e2]
      exact ih
    | false =>
      have e2 : sizesL ws n m (i + 1) = sizesL ws n m i := by
        unfold sizesL
        apply List.map_congr_left
        intro s _
        exact cntN_neg (by rw [sizeF, hb, Bool.false_and])
      rw [e2] at ih
      exact Ev.neg (by decide) ih
theorem impl_SwingsBySize.ev (q : Int) (l : List Int) (d : Int) (hn : l.length ≤ 9223372036854775807) (hk0 : -9223372036854775808 ≤ d) (hk1 : d ≤ 9223372036854775807) : Ev (fun k => impl_SwingsBySize.f k q l d) (if (goodC q l && inB 0 ((l.length : Int) - 1) d) = true then (sizesC q l d.toNat, true) else ([], false)) := by
  unfold impl_SwingsBySize.f
  refine Ev.bind (impl_isMember.ev q l d hn) ?_
  cases h : (goodC q l && inB 0 ((l.length : Int) - 1) d) with
  | false => exact Ev.neg (by decide) (Ev.now _)
  | true =>
    rw [Bool.and_eq_true, inB_iff] at h
    obtain ⟨h1, h2, h3, h4, h5⟩ := goodC_iff.1 h.1
    obtain ⟨m, rfl⟩ := Int.eq_ofNat_of_zero_le h.2.1
    refine Ev.pos rfl (Ev.one (impl_Committee_votes.eq h.1) ?_)
    simp only [Int.toNat_natCast]
    exact Ev.pos (by omega) (Ev.pos (by omega) (impl_SwingsBySize.loop _ l.length m (winsC_length q l) h2 (by omega)))

end Go.Proofs.Ytbjgdbgaopgbjaa.P
