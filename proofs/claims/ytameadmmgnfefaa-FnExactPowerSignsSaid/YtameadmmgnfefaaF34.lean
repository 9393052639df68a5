/- Plain facts of mine on printed functions: what they answer. No Go, no memory. -/
import Derived.Test.YtameadmmgnfefaaPx34
import Derived.Test.YtameadmmgnfefaaEv
import Derived.Test.YtameadmmgnfefaaF1
import Derived.Test.YtameadmmgnfefaaF2
import Derived.Test.YtameadmmgnfefaaF8
import Derived.Test.YtameadmmgnfefaaF13
import Derived.Test.YtameadmmgnfefaaF17
import Derived.Test.YtameadmmgnfefaaChain
import Derived.Test.YtameadmmgnfefaaPow
import Derived.Test.YtameadmmgnfefaaShare
import Derived.Test.YtameadmmgnfefaaShare
import Derived.Test.YtameadmmgnfefaaChain
namespace Go.Proofs.Ytameadmmgnfefaa.P
open Go.RowKit Go.Proofs.YtameadmmgnfefaaW.PrintWords Go.Proofs.YtameadmmgnfefaaW.PrintLast Go.Proofs.YtameadmmgnfefaaW.PrintMore
set_option linter.unusedVariables false
set_option linter.unusedSimpArgs false

-- NEEDS Chain
/-- The signs of how powers differ from weights. -/
def spec_PowerSigns.signs (P W : List S48) (n : Nat) : List Int := (List.range n).map fun (i : Nat) => sgn ((rd_T48 P (i : Int)).f0 * (rd_T48 W (i : Int)).f1 - (rd_T48 W (i : Int)).f0 * (rd_T48 P (i : Int)).f1)
def spec_PowerSigns.value (q : Int) (l : List Int) : List Int := spec_PowerSigns.signs (impl_sharesOf.list (pivotsC q l) (facI (l.length : Int))) (impl_sharesOf.list l l.sum) l.length
theorem shareO_le {n d : Int} (hn : 0 ≤ n) (hd : 0 ≤ d) : 0 ≤ (shareO n d).1 ∧ (shareO n d).1 ≤ n ∧ 0 ≤ (shareO n d).2 ∧ (shareO n d).2 ≤ d := by
  unfold shareO
  have h1 := Nat.div_le_self n.toNat (Nat.gcd n.toNat d.toNat)
  have h2 := Nat.div_le_self d.toNat (Nat.gcd n.toNat d.toNat)
  refine ⟨Int.natCast_nonneg _, ?_, Int.natCast_nonneg _, ?_⟩
  · exact Int.le_trans (Int.ofNat_le.2 h1) (by omega)
  · exact Int.le_trans (Int.ofNat_le.2 h2) (by omega)
theorem share_at {L : List Int} {d : Int} {i : Nat} (h : i < L.length) : rd_T48 (impl_sharesOf.list L d) (i : Int) = ⟨(shareO L[i] d).1, (shareO L[i] d).2⟩ := by simp [rd_T48, impl_sharesOf.list, h]
theorem spec_PowerSigns.bounds {q : Int} {l : List Int} (h : goodC q l = true) : ∀ i, i < l.length → 0 ≤ (rd_T48 (impl_sharesOf.list (pivotsC q l) (facI (l.length : Int))) i).f0 * (rd_T48 (impl_sharesOf.list l l.sum) i).f1 ∧ (rd_T48 (impl_sharesOf.list (pivotsC q l) (facI (l.length : Int))) i).f0 * (rd_T48 (impl_sharesOf.list l l.sum) i).f1 ≤ 4000000000000000000 ∧ 0 ≤ (rd_T48 (impl_sharesOf.list l l.sum) i).f0 * (rd_T48 (impl_sharesOf.list (pivotsC q l) (facI (l.length : Int))) i).f1 ∧ (rd_T48 (impl_sharesOf.list l l.sum) i).f0 * (rd_T48 (impl_sharesOf.list (pivotsC q l) (facI (l.length : Int))) i).f1 ≤ 4000000000000000000 := by
  obtain ⟨h1, h2, h3, h4, h5⟩ := goodC_iff.1 h
  intro i hi
  have hpl := pivotsC_le q l h2
  have hlp : (pivotsC q l).length = l.length := by simp [pivotsC]
  have hf := facI_le (d := (l.length : Int)) (by omega)
  have hs := (sum_le h3).2
  have a1 := h3 l[i] (List.getElem_mem hi)
  have a2 := hpl ((pivotsC q l)[i]'(by omega)) (List.getElem_mem _)
  rw [share_at hi, share_at (by omega)]
  have p1 := shareO_le (n := l[i]) (d := l.sum) a1.1 (by omega)
  have p2 := shareO_le (n := (pivotsC q l)[i]'(by omega)) (d := facI (l.length : Int)) a2.1 (by omega)
  have m1 := mul_bd p2.1 (show (shareO ((pivotsC q l)[i]'(by omega)) (facI (l.length : Int))).1 ≤ 67421872128000 by omega) p1.2.2.1 (show (shareO l[i] l.sum).2 ≤ 9000 by omega)
  have m2 := mul_bd p1.1 (show (shareO l[i] l.sum).1 ≤ 1000 by omega) p2.2.2.1 (show (shareO ((pivotsC q l)[i]'(by omega)) (facI (l.length : Int))).2 ≤ 362880 by omega)
  exact ⟨m1.1, Int.le_trans m1.2 (by decide), m2.1, Int.le_trans m2.2 (by decide)⟩
theorem spec_PowerSigns.loop (P W : List S48) (hl : W.length = P.length) (hn : P.length ≤ 1000000) (hB : ∀ i, i < P.length → 0 ≤ (rd_T48 P i).f0 * (rd_T48 W i).f1 ∧ (rd_T48 P i).f0 * (rd_T48 W i).f1 ≤ 4000000000000000000 ∧ 0 ≤ (rd_T48 W i).f0 * (rd_T48 P i).f1 ∧ (rd_T48 W i).f0 * (rd_T48 P i).f1 ≤ 4000000000000000000) : Ev (fun k => spec_PowerSigns.l0 k W [] P (P.length : Int) 0) (spec_PowerSigns.signs P W P.length, true) := by
  have h := down (P := fun i => Ev (fun k => spec_PowerSigns.l0 k W (spec_PowerSigns.signs P W i) P (P.length : Int) (i : Int)) (spec_PowerSigns.signs P W P.length, true)) P.length ?_ ?_ 0 (Nat.zero_le _)
  · exact h
  · refine Ev.step (fun k => by rw [spec_PowerSigns.l0]) ?_
    exact Ev.neg (by omega) (Ev.now _)
  · intro i hi ih
    refine Ev.step (fun k => by rw [spec_PowerSigns.l0]) ?_
    obtain ⟨b1, b2, b3, b4⟩ := hB i hi
    refine Ev.pos (by omega) (Ev.pos (by omega) (Ev.pos (by omega) (Ev.pos (by omega) (Ev.one (spec_pwCompare.eq b1 b2 b3 b4) (Ev.pos (by simp [spec_PowerSigns.signs]; omega) ?_)))))
    unfold spec_PowerSigns.signs at ih ⊢
    rw [map_next] at ih
    rw [wrap_next hi (by omega)]
    exact ih
theorem spec_PowerSigns.ev (q : Int) (l : List Int) (hn : l.length ≤ 9223372036854775807) : Ev (fun k => spec_PowerSigns.f k q l) (if goodC q l = true then (spec_PowerSigns.value q l, true) else ([], false)) := by
  unfold spec_PowerSigns.f
  refine Ev.bind (spec_voGood.ev q l hn) ?_
  cases h : goodC q l with
  | false => exact Ev.neg (by decide) (Ev.now _)
  | true =>
    obtain ⟨h1, h2, h3, h4, h5⟩ := goodC_iff.1 h
    have hlp : (impl_sharesOf.list (pivotsC q l) (facI (l.length : Int))).length = l.length := by simp [impl_sharesOf.list, pivotsC]
    have hlw : (impl_sharesOf.list l l.sum).length = l.length := by simp [impl_sharesOf.list]
    have hl := spec_PowerSigns.loop (impl_sharesOf.list (pivotsC q l) (facI (l.length : Int))) (impl_sharesOf.list l l.sum) (by omega) (by omega) (by rw [hlp]; exact spec_PowerSigns.bounds h)
    have e : (impl_sharesOf.list (pivotsC q l) (facI (l.length : Int))).length = l.length := hlp
    exact Ev.pos rfl (Ev.bind (spec_shWeights.ev q l h2 h3 (by omega)) (Ev.bind (spec_shPowers.ev q l h2 h3) (hl.cast (by rw [e]; rfl))))

-- NEEDS Pow
theorem impl_WeightShares.ev (q : Int) (l : List Int) (hn : l.length ≤ 9223372036854775807) : Ev (fun k => impl_WeightShares.f k q l) (if goodC q l = true then (impl_sharesOf.list l l.sum, true) else ([], false)) := by
  unfold impl_WeightShares.f
  refine Ev.bind (impl_IsCommittee.ev q l hn) ?_
  cases h : goodC q l with
  | false => exact Ev.neg (by decide) (Ev.now _)
  | true =>
    obtain ⟨h1, h2, h3, h4, h5⟩ := goodC_iff.1 h
    have hs2 := (sum_le h3).2
    exact Ev.pos rfl (Ev.bind (impl_sumOf.ev l 1000 h3 (by omega) (by omega)) (Ev.bind (impl_sharesOf.ev l l.sum (by omega) (fun x hx => by have := h3 x hx; omega) (by omega) (by omega)) (Ev.now _)))

theorem cmp_isNaN_int.eq (a : Int) : cmp_isNaN_int.f a = some false := by simp [cmp_isNaN_int.f]

-- NEEDS Share
theorem cmp_Compare_int.eq (a b : Int) : cmp_Compare_int.f a b = some (sgn (a - b)) := by
  unfold cmp_Compare_int.f sgn
  simp only [cmp_isNaN_int.eq, Option.bind_some, Bool.false_eq_true, if_false]
  by_cases h1 : a < b
  · rw [if_pos h1, if_neg (by omega), if_pos (by omega)]
  · rw [if_neg h1]
    by_cases h2 : a > b
    · rw [if_pos h2, if_pos (by omega)]
    · rw [if_neg h2, if_neg (by omega), if_neg (by omega)]

-- NEEDS Share
theorem impl_compare.eq {a b c d : Int} (h0 : 0 ≤ a * d) (h1 : a * d ≤ 4000000000000000000) (h2 : 0 ≤ c * b) (h3 : c * b ≤ 4000000000000000000) : impl_compare.f a b c d = some (sgn (a * d - c * b)) := by
  unfold impl_compare.f
  rw [wrap_id (x := a * d) (by omega) (by omega), wrap_id (x := c * b) (by omega) (by omega), cmp_Compare_int.eq]
  rfl

-- NEEDS Chain
theorem impl_PowerSigns.loop (P W : List S48) (hl : W.length = P.length) (hn : P.length ≤ 1000000) (hB : ∀ i, i < P.length → 0 ≤ (rd_T48 P i).f0 * (rd_T48 W i).f1 ∧ (rd_T48 P i).f0 * (rd_T48 W i).f1 ≤ 4000000000000000000 ∧ 0 ≤ (rd_T48 W i).f0 * (rd_T48 P i).f1 ∧ (rd_T48 W i).f0 * (rd_T48 P i).f1 ≤ 4000000000000000000) : Ev (fun k => impl_PowerSigns.l0 k W [] P (P.length : Int) 0) (spec_PowerSigns.signs P W P.length, true) := by
  have h := down (P := fun i => Ev (fun k => impl_PowerSigns.l0 k W (spec_PowerSigns.signs P W i) P (P.length : Int) (i : Int)) (spec_PowerSigns.signs P W P.length, true)) P.length ?_ ?_ 0 (Nat.zero_le _)
  · exact h
  · refine Ev.step (fun k => by rw [impl_PowerSigns.l0]) ?_
    exact Ev.neg (by omega) (Ev.now _)
  · intro i hi ih
    refine Ev.step (fun k => by rw [impl_PowerSigns.l0]) ?_
    obtain ⟨b1, b2, b3, b4⟩ := hB i hi
    refine Ev.pos (by omega) (Ev.pos (by omega) (Ev.pos (by omega) (Ev.pos (by omega) (Ev.one (impl_compare.eq b1 b2 b3 b4) (Ev.pos (by simp [spec_PowerSigns.signs]; omega) ?_)))))
    unfold spec_PowerSigns.signs at ih ⊢
    rw [map_next] at ih
    rw [wrap_next hi (by omega)]
    exact ih
theorem impl_PowerSigns.ev (q : Int) (l : List Int) (hn : l.length ≤ 9223372036854775807) : Ev (fun k => impl_PowerSigns.f k q l) (if goodC q l = true then (spec_PowerSigns.value q l, true) else ([], false)) := by
  unfold impl_PowerSigns.f
  have ho := impl_OrderPowers.ev q l hn
  have hw := impl_WeightShares.ev q l hn
  cases h : goodC q l with
  | false =>
    rw [h, if_neg (by decide)] at ho hw
    refine Ev.bind ho (Ev.bind hw (Ev.neg (by simp) ?_))
    refine Ev.step (fun k => by rw [impl_PowerSigns.j0]) ?_
    exact Ev.pos rfl (Ev.now _)
  | true =>
    rw [h, if_pos rfl] at ho hw
    obtain ⟨h1, h2, h3, h4, h5⟩ := goodC_iff.1 h
    have hlp : (impl_sharesOf.list (pivotsC q l) (facI (l.length : Int))).length = l.length := by simp [impl_sharesOf.list, pivotsC]
    have hlw : (impl_sharesOf.list l l.sum).length = l.length := by simp [impl_sharesOf.list]
    have hl := impl_PowerSigns.loop (impl_sharesOf.list (pivotsC q l) (facI (l.length : Int))) (impl_sharesOf.list l l.sum) (by omega) (by omega) (by rw [hlp]; exact spec_PowerSigns.bounds h)
    refine Ev.bind ho (Ev.bind hw (Ev.pos rfl ?_))
    refine Ev.step (fun k => by rw [impl_PowerSigns.j0]) ?_
    refine Ev.neg (by simp) (hl.cast ?_)
    rw [hlp]
    rfl

end Go.Proofs.Ytameadmmgnfefaa.P
