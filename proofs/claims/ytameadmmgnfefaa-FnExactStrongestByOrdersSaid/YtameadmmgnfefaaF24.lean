/- Plain facts of mine on printed functions: what they answer. No Go, no memory. -/
import Derived.Test.YtameadmmgnfefaaPx24
import Derived.Test.YtameadmmgnfefaaEv
import Derived.Test.YtameadmmgnfefaaF1
import Derived.Test.YtameadmmgnfefaaF2
import Derived.Test.YtameadmmgnfefaaF6
import Derived.Test.YtameadmmgnfefaaF12
import Derived.Test.YtameadmmgnfefaaF15
import Derived.Test.YtameadmmgnfefaaChain
import Derived.Test.YtameadmmgnfefaaRoot
namespace Go.Proofs.Ytameadmmgnfefaa.P
open Go.RowKit Go.Proofs.YtameadmmgnfefaaW.PrintWords Go.Proofs.YtameadmmgnfefaaW.PrintLast Go.Proofs.YtameadmmgnfefaaW.PrintMore
set_option linter.unusedVariables false
set_option linter.unusedSimpArgs false

-- NEEDS Chain
-- NEEDS Root
theorem strongest_most (P : List Int) (h0 : 0 < P.length) (hx : ∀ x ∈ P, 0 ≤ x) : P.foldl (fun a b => if a > b then a else b) 0 = maxL P := by
  have e : (fun a b : Int => if a > b then a else b) = fun a b => mx a b := by
    funext a b
    unfold mx
    split <;> split <;> omega
  match P, h0, hx with
  | a :: r, _, hx =>
    have ha := hx a List.mem_cons_self
    rw [List.foldl_cons, if_neg (by omega), e]
    rfl
def strongC (q : Int) (l : List Int) : List Int := pickI (strongP (pivotsC q l) (maxL (pivotsC q l))) l.length
theorem strongP_at {P : List Int} {m : Int} {i : Nat} (h : i < P.length) : strongP P m (i : Int) = decide (P[i] = m) := by simp [strongP, h]
theorem spec_StrongestByOrders.last (P : List Int) (m : Int) (hl : P.length ≤ 1000000) : Ev (fun k => spec_StrongestByOrders.l1 k m [] P (P.length : Int) 0) (pickI (strongP P m) P.length, true) := by
  have h := down (P := fun i => Ev (fun k => spec_StrongestByOrders.l1 k m (pickI (strongP P m) i) P (P.length : Int) (i : Int)) (pickI (strongP P m) P.length, true)) P.length ?_ ?_ 0 (Nat.zero_le _)
  · exact h
  · refine Ev.step (fun k => by rw [spec_StrongestByOrders.l1]) ?_
    exact Ev.neg (by omega) (Ev.now _)
  · intro i hi ih
    refine Ev.step (fun k => by rw [spec_StrongestByOrders.l1]) ?_
    have hp := strongP_at (m := m) hi
    have hll := pickI_length (strongP P m) i
    rw [pickI_succ, hp] at ih
    rw [rd_nat hi, wrap_next hi (by omega)]
    refine Ev.pos (by omega) (Ev.pos (by omega) (Ev.pos (by omega) ?_))
    by_cases ha : P[i] = m
    · rw [if_pos (decide_eq_true ha)] at ih
      exact Ev.pos ha (Ev.pos (by omega) ih)
    · rw [if_neg (by simpa using ha)] at ih
      exact Ev.neg ha ih
theorem spec_StrongestByOrders.loop (P : List Int) (hl : P.length ≤ 1000000) : Ev (fun k => spec_StrongestByOrders.l0 k P 0 P (P.length : Int) 0) (pickI (strongP P (P.foldl (fun a b => if a > b then a else b) 0)) P.length, true) := by
  have h := down (P := fun i => Ev (fun k => spec_StrongestByOrders.l0 k P ((P.take i).foldl (fun a b => if a > b then a else b) 0) P (P.length : Int) (i : Int)) (pickI (strongP P (P.foldl (fun a b => if a > b then a else b) 0)) P.length, true)) P.length ?_ ?_ 0 (Nat.zero_le _)
  · exact h
  · refine Ev.step (fun k => by rw [spec_StrongestByOrders.l0]) ?_
    rw [List.take_length]
    exact Ev.neg (by omega) (spec_StrongestByOrders.last P _ hl)
  · intro i hi ih
    refine Ev.step (fun k => by rw [spec_StrongestByOrders.l0]) ?_
    rw [List.take_succ_eq_append_getElem hi, List.foldl_append] at ih
    rw [rd_nat hi, wrap_next hi (by omega)]
    exact Ev.pos (by omega) (Ev.pos (by omega) (Ev.pos (by omega) (Ev.one (spec_l1Most.eq _ _) ih)))
theorem spec_StrongestByOrders.ev (q : Int) (l : List Int) (hn : l.length ≤ 9223372036854775807) : Ev (fun k => spec_StrongestByOrders.f k q l) (if goodC q l = true then (strongC q l, true) else ([], false)) := by
  unfold spec_StrongestByOrders.f
  refine Ev.bind (spec_voGood.ev q l hn) ?_
  cases h : goodC q l with
  | false => exact Ev.neg (by decide) (Ev.now _)
  | true =>
    obtain ⟨h1, h2, h3, h4, h5⟩ := goodC_iff.1 h
    have hlp : (pivotsC q l).length = l.length := by simp [pivotsC]
    have hm := strongest_most (pivotsC q l) (by omega) (fun x hx => (pivotsC_le q l h2 x hx).1)
    have hl := spec_StrongestByOrders.loop (pivotsC q l) (by omega)
    rw [hm] at hl
    exact Ev.pos rfl (Ev.bind (spec_voWins.ev q l h2 h3) (Ev.bind (spec_pwPivots.ev _ l.length (winsC_length q l) h2) (hl.cast (by rw [hlp]; rfl))))
theorem impl_StrongestByOrders.ev (q : Int) (l : List Int) (hn : l.length ≤ 9223372036854775807) : Ev (fun k => impl_StrongestByOrders.f k q l) (if goodC q l = true then (strongC q l, true) else ([], false)) := by
  unfold impl_StrongestByOrders.f
  refine Ev.bind (impl_IsCommittee.ev q l hn) ?_
  cases h : goodC q l with
  | false => exact Ev.neg (by decide) (Ev.now _)
  | true =>
    obtain ⟨h1, h2, h3, h4, h5⟩ := goodC_iff.1 h
    have hlp : (pivotsC q l).length = l.length := by simp [pivotsC]
    exact Ev.pos rfl (Ev.one (impl_Committee_votes.eq h) (Ev.bind (impl_votes_pivots.ev _ l.length (winsC_length q l) h2) (Ev.bind (slices_Max_int_int.ev (pivotsC q l) (by omega) (by omega)) (Ev.pos (show (pivotsC q l).length ≤ 1000 by omega) ((Ev.now _).cast (by rw [if_pos rfl]; show (pickI (strongP (pivotsC q l) (maxL (pivotsC q l))) (pivotsC q l).length, true) = _; rw [hlp]; rfl))))))

end Go.Proofs.Ytameadmmgnfefaa.P
