/- Plain facts of mine on printed functions: what they answer. No Go, no memory. -/
import Derived.Test.YthjnmfacdlgbbaaPx18
import Derived.Test.YthjnmfacdlgbbaaEv
import Derived.Test.YthjnmfacdlgbbaaF1
import Derived.Test.YthjnmfacdlgbbaaF4
import Derived.Test.YthjnmfacdlgbbaaF7
import Derived.Test.YthjnmfacdlgbbaaF9
import Derived.Test.YthjnmfacdlgbbaaShare
import Derived.Test.YthjnmfacdlgbbaaShare
import Derived.Test.YthjnmfacdlgbbaaPow
import Derived.Test.YthjnmfacdlgbbaaPow
import Derived.Test.YthjnmfacdlgbbaaPow
import Derived.Test.YthjnmfacdlgbbaaPow
import Derived.Test.YthjnmfacdlgbbaaShare
import Derived.Test.YthjnmfacdlgbbaaShare
import Derived.Test.YthjnmfacdlgbbaaPow
import Derived.Test.YthjnmfacdlgbbaaPow
import Derived.Test.YthjnmfacdlgbbaaShare
namespace Go.Proofs.Ythjnmfacdlgbbaa.P
open Go.RowKit Go.Proofs.YthjnmfacdlgbbaaW.PrintWords Go.Proofs.YthjnmfacdlgbbaaW.PrintLast Go.Proofs.YthjnmfacdlgbbaaW.PrintMore
set_option linter.unusedVariables false
set_option linter.unusedSimpArgs false

theorem spec_pwCommon.nat (b : Nat) : ∀ a : Nat, Ev (fun k => spec_pwCommon.l0 k (a : Int) (b : Int)) ((Nat.gcd a b : Nat) : Int) := by
  induction b using Nat.strongRecOn with
  | _ b ih =>
    intro a
    refine Ev.step (fun k => by rw [spec_pwCommon.l0]) ?_
    rcases Nat.eq_zero_or_pos b with h | h
    · subst h
      exact Ev.neg (by omega) ((Ev.now _).cast (by simp))
    · refine Ev.pos (by omega) (Ev.neg (by omega) ?_)
      rw [← Int.ofNat_tmod]
      refine Ev.cast (ih (a % b) (Nat.mod_lt _ h) b) ?_
      rw [Nat.gcd_comm, ← Nat.gcd_rec, Nat.gcd_comm]
theorem spec_pwCommon.ev {a b : Int} (ha : 0 ≤ a) (hb : 0 ≤ b) : Ev (fun k => spec_pwCommon.f k a b) ((Nat.gcd a.toNat b.toNat : Nat) : Int) := by
  unfold spec_pwCommon.f
  obtain ⟨a, rfl⟩ := Int.eq_ofNat_of_zero_le ha
  obtain ⟨b, rfl⟩ := Int.eq_ofNat_of_zero_le hb
  exact spec_pwCommon.nat b a

-- NEEDS Share
theorem spec_pwGood.ev (n d : Int) : Ev (fun k => spec_pwGood.f k n d) (goodS n d) := by
  unfold spec_pwGood.f
  refine Ev.one (spec_l1In.eq _ _ _) ?_
  cases h1 : inB 1 1000000 d with
  | false => exact Ev.neg (by decide) ((Ev.now _).cast (by simp [goodS, h1]))
  | true =>
    refine Ev.pos rfl (Ev.one (spec_l1In.eq _ _ _) ?_)
    cases h2 : inB 0 d n with
    | false => exact Ev.neg (by decide) ((Ev.now _).cast (by simp [goodS, h2]))
    | true =>
      have h3 := inB_iff.1 h1
      have h4 := inB_iff.1 h2
      exact Ev.pos rfl (Ev.bind (spec_pwCommon.ev (by omega) (by omega)) ((Ev.now _).cast (by simp [goodS, h1, h2])))

-- NEEDS Share
/-- Numbers, all over another one. -/
def spec_pwShare.list (l : List Int) (d : Int) : List S47 := l.map fun x => ⟨(shareO x d).1, (shareO x d).2⟩
theorem spec_pwShare.ev {n d : Int} (h0 : 0 ≤ n) (h1 : n ≤ 9223372036854775807) (h2 : 1 ≤ d) (h3 : d ≤ 9223372036854775807) : Ev (fun k => spec_pwShare.f k n d) (shareO n d) := by
  unfold spec_pwShare.f
  refine Ev.bind (spec_pwCommon.ev h0 (by omega)) ?_
  have hg : 0 < Nat.gcd n.toNat d.toNat := Nat.gcd_pos_of_pos_right _ (by omega)
  refine Ev.neg (by omega) ((Ev.now _).cast ?_)
  obtain ⟨n, rfl⟩ := Int.eq_ofNat_of_zero_le h0
  obtain ⟨d, rfl⟩ := Int.eq_ofNat_of_zero_le (show 0 ≤ d by omega)
  simp only [Int.toNat_natCast] at hg ⊢
  have e1 : wrap64 (Int.tdiv (n : Int) (Nat.gcd n d : Nat)) = ((n / Nat.gcd n d : Nat) : Int) := by
    rw [← Int.ofNat_tdiv]
    have := Nat.div_le_self n (Nat.gcd n d)
    exact wrap_id (Int.le_trans (by decide) (Int.natCast_nonneg _)) (Int.le_trans (Int.ofNat_le.2 this) (by omega))
  have e2 : wrap64 (Int.tdiv (d : Int) (Nat.gcd n d : Nat)) = ((d / Nat.gcd n d : Nat) : Int) := by
    rw [← Int.ofNat_tdiv]
    have := Nat.div_le_self d (Nat.gcd n d)
    exact wrap_id (Int.le_trans (by decide) (Int.natCast_nonneg _)) (Int.le_trans (Int.ofNat_le.2 this) (by omega))
  simp only [shareO, Int.toNat_natCast, e1, e2]

-- NEEDS Pow
theorem spec_shWeights.ev (q : Int) (l : List Int) (h9 : l.length ≤ 9) (hx : ∀ x ∈ l, 0 ≤ x ∧ x ≤ 1000) (hs : 1 ≤ l.sum) : Ev (fun k => spec_shWeights.f k q l) (l.map fun x => ⟨(shareO x l.sum).1, (shareO x l.sum).2⟩) := by
  unfold spec_shWeights.f
  have hs2 := (sum_le hx).2
  have h := down (P := fun i => Ev (fun k => spec_shWeights.l0 k ((l.take i).map fun x => ⟨(shareO x l.sum).1, (shareO x l.sum).2⟩) l (l.length : Int) (i : Int) q l) (l.map fun x => ⟨(shareO x l.sum).1, (shareO x l.sum).2⟩)) l.length ?_ ?_ 0 (Nat.zero_le _)
  · exact h
  · refine Ev.step (fun k => by rw [spec_shWeights.l0]) ?_
    exact Ev.neg (by omega) ((Ev.now _).cast (by rw [List.take_length]))
  · intro i hi ih
    refine Ev.step (fun k => by rw [spec_shWeights.l0]) ?_
    have hv := hx l[i] (List.getElem_mem hi)
    refine Ev.pos (by omega) (Ev.pos (by omega) (Ev.pos (by omega) ?_))
    rw [rd_nat hi, wrap_next hi (by omega)]
    refine Ev.bind (spec_voSum.ev l 1000 hx (by omega) (by omega)) (Ev.bind (spec_pwShare.ev hv.1 (by omega) hs (by omega)) (Ev.pos (by simp; omega) ?_))
    rw [List.take_succ_eq_append_getElem hi, List.map_append] at ih
    exact ih

-- NEEDS Pow
theorem spec_shPowers.loop (n : Nat) (L : List Int) (hl : L.length ≤ 1000000) (hx : ∀ x ∈ L, 0 ≤ x ∧ x ≤ 9223372036854775807) (h9 : n ≤ 9) : Ev (fun k => spec_shPowers.l0 k (n : Int) [] L (L.length : Int) 0) (spec_pwShare.list L (facI (n : Int))) := by
  have h := down (P := fun i => Ev (fun k => spec_shPowers.l0 k (n : Int) (spec_pwShare.list (L.take i) (facI (n : Int))) L (L.length : Int) (i : Int)) (spec_pwShare.list L (facI (n : Int)))) L.length ?_ ?_ 0 (Nat.zero_le _)
  · exact h
  · refine Ev.step (fun k => by rw [spec_shPowers.l0]) ?_
    exact Ev.neg (by omega) ((Ev.now _).cast (by rw [List.take_length]))
  · intro i hi ih
    refine Ev.step (fun k => by rw [spec_shPowers.l0]) ?_
    have hv := hx L[i] (List.getElem_mem hi)
    have e : spec_pwShare.list (L.take i) (facI (n : Int)) ++ [⟨(shareO L[i] (facI (n : Int))).1, (shareO L[i] (facI (n : Int))).2⟩] = spec_pwShare.list (L.take (i + 1)) (facI (n : Int)) := by
      unfold spec_pwShare.list
      rw [List.take_succ_eq_append_getElem hi, List.map_append]
      rfl
    rw [rd_nat hi, wrap_next hi (by omega)]
    refine Ev.pos (by omega) (Ev.pos (by omega) (Ev.pos (by omega) (Ev.bind (spec_pwTimes.ev (by omega) (by omega)) ?_)))
    have hf := facI_le (d := (n : Int)) (by omega)
    refine Ev.bind (spec_pwShare.ev hv.1 hv.2 (by omega) (by omega)) (Ev.pos (by simp [spec_pwShare.list]; omega) ?_)
    rw [e]
    exact ih
theorem spec_shPowers.ev (q : Int) (l : List Int) (h2 : l.length ≤ 9) (h3 : ∀ x ∈ l, 0 ≤ x ∧ x ≤ 1000) : Ev (fun k => spec_shPowers.f k q l) (spec_pwShare.list (pivotsC q l) (facI (l.length : Int))) := by
  unfold spec_shPowers.f
  have hpl := pivotsC_le q l h2
  have hlp : (pivotsC q l).length = l.length := by simp [pivotsC]
  exact Ev.bind (spec_voWins.ev q l h2 h3) (Ev.bind (spec_pwPivots.ev _ l.length (winsC_length q l) h2) (spec_shPowers.loop l.length (pivotsC q l) (by omega) (fun x hx => by have := hpl x hx; omega) h2))

theorem spec_l1Most.eq (a b : Int) : spec_l1Most.f a b = some (if a > b then a else b) := by
  unfold spec_l1Most.f
  split <;> rfl

-- NEEDS Pow
theorem spec_l1Abs.eq (a : Int) (h0 : -4000000000000000000 ≤ a) (h1 : a ≤ 4000000000000000000) : spec_l1Abs.f a = some (absI a) := by
  unfold spec_l1Abs.f
  rw [wrap_id (by omega) (by omega), spec_l1Most.eq]
  rfl

-- NEEDS Pow
theorem absI_le {a B : Int} (h0 : -B ≤ a) (h1 : a ≤ B) : absI a ≤ B := by unfold absI; split <;> omega
theorem spec_shOff.ev {p N w S : Int} (hp : 0 ≤ p) (hp2 : p ≤ N) (hN : 1 ≤ N) (hN2 : N ≤ 362880) (hw : 0 ≤ w) (hw2 : w ≤ S) (hS : 1 ≤ S) (hS2 : S ≤ 1000) : Ev (fun k => spec_shOff.f k (shareO p N).1 (shareO p N).2 (shareO w S).1 (shareO w S).2) (shareO (absI (p * S - w * N)) (N * S)) := by
  unfold spec_shOff.f
  have e := off_eq hp hN hw hS
  obtain ⟨g, hg, h1, h2, h3, h4⟩ := share_val hp hN
  obtain ⟨g', hg', i1, i2, i3, i4⟩ := share_val hw hS
  have c1 : (shareO p N).1 ≤ p := by have := Int.mul_le_mul_of_nonneg_right hg h3; rw [Int.one_mul, ← h1] at this; exact this
  have c2 : (shareO p N).2 ≤ N := by have := Int.mul_le_mul_of_nonneg_right hg (show 0 ≤ (shareO p N).2 by omega); rw [Int.one_mul, ← h2] at this; exact this
  have c3 : (shareO w S).1 ≤ w := by have := Int.mul_le_mul_of_nonneg_right hg' i3; rw [Int.one_mul, ← i1] at this; exact this
  have c4 : (shareO w S).2 ≤ S := by have := Int.mul_le_mul_of_nonneg_right hg' (show 0 ≤ (shareO w S).2 by omega); rw [Int.one_mul, ← i2] at this; exact this
  clear h1 h2 i1 i2
  generalize (shareO p N).1 = a1 at *
  generalize (shareO p N).2 = d1 at *
  generalize (shareO w S).1 = b1 at *
  generalize (shareO w S).2 = d2 at *
  have m1 := mul_bd h3 (show a1 ≤ 362880 by omega) (show 0 ≤ d2 by omega) (show d2 ≤ 1000 by omega)
  have m2 := mul_bd i3 (show b1 ≤ 1000 by omega) (show 0 ≤ d1 by omega) (show d1 ≤ 362880 by omega)
  have m3 := mul_bd (show 0 ≤ d1 by omega) (show d1 ≤ 362880 by omega) (show 0 ≤ d2 by omega) (show d2 ≤ 1000 by omega)
  have m4 : 0 < d1 * d2 := Int.mul_pos (by omega) (by omega)
  have a0 := absI_nonneg (a1 * d2 - b1 * d1)
  have a9 := absI_le (a := a1 * d2 - b1 * d1) (B := 1000000000000) (by omega) (by omega)
  rw [wrap_id (x := a1 * d2) (by omega) (by omega), wrap_id (x := b1 * d1) (by omega) (by omega), wrap_id (x := a1 * d2 - b1 * d1) (by omega) (by omega), wrap_id (x := d1 * d2) (by omega) (by omega)]
  refine Ev.one (spec_l1Abs.eq _ (by omega) (by omega)) (Ev.bind (spec_pwShare.ev a0 (by omega) (by omega) (by omega)) ((Ev.now _).cast ?_))
  rw [e]

-- NEEDS Share
theorem spec_l1Sign.eq (a : Int) : spec_l1Sign.f a = some (sgn a) := by
  unfold spec_l1Sign.f sgn
  split
  · rfl
  · split <;> rfl

-- NEEDS Share
theorem spec_pwCompare.eq {a b c d : Int} (h0 : 0 ≤ a * d) (h1 : a * d ≤ 4000000000000000000) (h2 : 0 ≤ c * b) (h3 : c * b ≤ 4000000000000000000) : spec_pwCompare.f a b c d = some (sgn (a * d - c * b)) := by
  unfold spec_pwCompare.f
  rw [wrap_id (x := a * d) (by omega) (by omega), wrap_id (x := c * b) (by omega) (by omega), wrap_id (by omega) (by omega), spec_l1Sign.eq]
  rfl

-- NEEDS Pow
theorem shFar_at {L : List Int} {d : Int} {i : Nat} (h : i < L.length) : rd_T47 (spec_pwShare.list L d) (i : Int) = ⟨(shareO L[i] d).1, (shareO L[i] d).2⟩ := by simp [rd_T47, spec_pwShare.list, h]
/-- What is known of a member's two numbers. -/
theorem far_bounds {q : Int} {l : List Int} (h : goodC q l = true) {i : Nat} (hi : i < l.length) : 0 ≤ (pivotsC q l).getD i 0 ∧ (pivotsC q l).getD i 0 ≤ facI (l.length : Int) ∧ 0 ≤ l.getD i 0 ∧ l.getD i 0 ≤ l.sum := by
  obtain ⟨h1, h2, h3, h4, h5⟩ := goodC_iff.1 h
  have hlp : (pivotsC q l).length = l.length := by simp [pivotsC]
  have h6 := pivotsC_fac q l h2 ((pivotsC q l)[i]'(by omega)) (List.getElem_mem _)
  have h7 := h3 l[i] (List.getElem_mem hi)
  have h8 := (wt_le h3 (2 ^ i)).2
  rw [wt_single l i hi] at h8
  rw [getI_at (by omega), getI_at hi]
  exact ⟨h6.1, h6.2, h7.1, h8⟩
theorem far_le {q : Int} {l : List Int} (h : goodC q l = true) (hS : l.sum ≤ 1000) : ∀ i, i ≤ l.length → 0 ≤ farF q l i ∧ farF q l i ≤ 362880000 := by
  obtain ⟨h1, h2, h3, h4, h5⟩ := goodC_iff.1 h
  have hf := facI_le (d := (l.length : Int)) (by omega)
  intro i
  induction i with
  | zero => intro _; simp [farF]
  | succ i ih =>
    intro hi
    obtain ⟨b1, b2, b3, b4⟩ := far_bounds h (show i < l.length by omega)
    have := ih (by omega)
    have m1 := mul_bd b1 (show (pivotsC q l).getD i 0 ≤ 362880 by omega) (show 0 ≤ l.sum by omega) (show l.sum ≤ 1000 by omega)
    have m2 := mul_bd b3 (show l.getD i 0 ≤ 1000 by omega) (show 0 ≤ facI (l.length : Int) by omega) (show facI (l.length : Int) ≤ 362880 by omega)
    rw [farF]
    generalize (pivotsC q l).getD i 0 * l.sum = A at *
    generalize l.getD i 0 * facI (l.length : Int) = B at *
    unfold mx
    split <;> split <;> omega
theorem spec_shFar.ev (q : Int) (l : List Int) (h : goodC q l = true) (hS : l.sum ≤ 60) : Ev (fun k => spec_shFar.f k q l) (shareO (farC q l) (facI (l.length : Int) * l.sum)) := by
  unfold spec_shFar.f
  obtain ⟨h1, h2, h3, h4, h5⟩ := goodC_iff.1 h
  have hf := facI_le (d := (l.length : Int)) (by omega)
  have hlp : (pivotsC q l).length = l.length := by simp [pivotsC]
  refine Ev.bind (spec_shWeights.ev q l h2 h3 (by omega)) (Ev.bind (spec_shPowers.ev q l h2 h3) ?_)
  have hll : (spec_pwShare.list (pivotsC q l) (facI (l.length : Int))).length = l.length := by simp [spec_pwShare.list, hlp]
  have hlw : (spec_pwShare.list l l.sum).length = l.length := by simp [spec_pwShare.list]
  have hD := mul_bd (show 0 ≤ facI (l.length : Int) by omega) (show facI (l.length : Int) ≤ 362880 by omega) (show 0 ≤ l.sum by omega) hS
  have hD1 : 1 ≤ facI (l.length : Int) * l.sum := Int.mul_pos (by omega) (by omega)
  show Ev (fun k => spec_shFar.l0 k (spec_pwShare.list l l.sum) (spec_pwShare.list (pivotsC q l) (facI (l.length : Int))) ((spec_pwShare.list (pivotsC q l) (facI (l.length : Int))).length : Int) 0 0 1) _
  rw [hll]
  have h := down (P := fun i => Ev (fun k => spec_shFar.l0 k (spec_pwShare.list l l.sum) (spec_pwShare.list (pivotsC q l) (facI (l.length : Int))) (l.length : Int) (i : Int) (shareO (farF q l i) (facI (l.length : Int) * l.sum)).1 (shareO (farF q l i) (facI (l.length : Int) * l.sum)).2) (shareO (farC q l) (facI (l.length : Int) * l.sum))) l.length ?_ ?_ 0 (Nat.zero_le _)
  · have e : shareO (farF q l 0) (facI (l.length : Int) * l.sum) = (0, 1) := by
      rw [farF]
      obtain ⟨D, hD2⟩ := Int.eq_ofNat_of_zero_le (show 0 ≤ facI (l.length : Int) * l.sum by omega)
      rw [hD2] at hD1 ⊢
      have := shareO_nat 0 D
      rw [Nat.gcd_zero_left, Nat.zero_div, Nat.div_self (by omega)] at this
      exact this
    rw [e] at h
    exact h
  · refine Ev.step (fun k => by rw [spec_shFar.l0]) ?_
    exact Ev.neg (by omega) (Ev.now _)
  · intro i hi ih
    refine Ev.step (fun k => by rw [spec_shFar.l0]) ?_
    obtain ⟨b1, b2, b3, b4⟩ := far_bounds h hi
    have hF := far_le h (by omega) i (by omega)
    have hF2 := far_le h (by omega) (i + 1) (by omega)
    rw [farF] at ih hF2
    refine Ev.pos (by omega) (Ev.pos (by omega) (Ev.pos (by omega) (Ev.pos (by omega) ?_)))
    rw [shFar_at hi, shFar_at (by omega), wrap_next hi (by omega)]
    have g1 : (pivotsC q l)[i]'(by omega) = (pivotsC q l).getD i 0 := (getI_at (by omega)).symm
    have g2 : l[i] = l.getD i 0 := (getI_at hi).symm
    rw [g1, g2]
    refine Ev.bind (spec_shOff.ev b1 b2 (by omega) (by omega) b3 b4 (by omega) (by omega)) ?_
    generalize hd : (pivotsC q l).getD i 0 * l.sum - l.getD i 0 * facI (l.length : Int) = d at *
    have ha : 0 ≤ absI d ∧ absI d ≤ 362880000 := by
      refine ⟨absI_nonneg d, ?_⟩
      unfold absI mx at *
      split <;> split at hF2 <;> split at hF2 <;> omega
    generalize facI (l.length : Int) * l.sum = D at *
    have v1 := shareO_bd ha.1 hD1
    have v2 := shareO_bd hF.1 hD1
    have p1 := mul_bd v1.1 (show (shareO (absI d) D).1 ≤ 362880000 by omega) v2.2.2.1 (show (shareO (farF q l i) D).2 ≤ 362880 * 60 by omega)
    have p2 := mul_bd v2.1 (show (shareO (farF q l i) D).1 ≤ 362880000 by omega) v1.2.2.1 (show (shareO (absI d) D).2 ≤ 362880 * 60 by omega)
    refine Ev.one (spec_pwCompare.eq p1.1 (Int.le_trans p1.2 (by decide)) p2.1 (Int.le_trans p2.2 (by decide))) ?_
    rw [share_cmp ha.1 hF.1 hD1]
    have key : mx (mx (farF q l i) d) (-d) = if absI d > farF q l i then absI d else farF q l i := by
      unfold absI mx
      grind
    rw [key] at ih
    by_cases hc : absI d > farF q l i
    · rw [if_pos hc] at ih
      exact Ev.pos (by unfold sgn; rw [if_pos (by omega)]; decide) ih
    · rw [if_neg hc] at ih
      refine Ev.neg ?_ ih
      unfold sgn
      rw [if_neg (by omega)]
      split <;> decide

-- NEEDS Pow
theorem spec_FarthestOff.ev (q : Int) (l : List Int) (hn : l.length ≤ 9223372036854775807) : Ev (fun k => spec_FarthestOff.f k q l) (if (goodC q l && decide (l.sum ≤ 60)) = true then (if goodS (shareO (farC q l) (facI (l.length : Int) * l.sum)).1 (shareO (farC q l) (facI (l.length : Int) * l.sum)).2 = true then ((shareO (farC q l) (facI (l.length : Int) * l.sum)).1, (shareO (farC q l) (facI (l.length : Int) * l.sum)).2, true) else (0, 0, false)) else (0, 0, false)) := by
  unfold spec_FarthestOff.f
  refine Ev.bind (spec_shScanned.ev q l hn) ?_
  cases h : (goodC q l && decide (l.sum ≤ 60)) with
  | false => exact Ev.neg (by decide) (Ev.now _)
  | true =>
    rw [Bool.and_eq_true, decide_eq_true_eq] at h
    refine Ev.pos rfl (Ev.bind (spec_shFar.ev q l h.1 h.2) (Ev.bind (spec_pwGood.ev _ _) ?_))
    rw [if_pos rfl]
    cases hg : goodS (shareO (farC q l) (facI (l.length : Int) * l.sum)).1 (shareO (farC q l) (facI (l.length : Int) * l.sum)).2 with
    | false => exact Ev.neg (by decide) (Ev.now _)
    | true => exact Ev.pos rfl (Ev.bind (spec_shFar.ev q l h.1 h.2) (Ev.now _))

theorem impl_gcd.nat (b : Nat) : ∀ a : Nat, Ev (fun k => impl_gcd.l0 k (a : Int) (b : Int)) ((Nat.gcd a b : Nat) : Int) := by
  induction b using Nat.strongRecOn with
  | _ b ih =>
    intro a
    refine Ev.step (fun k => by rw [impl_gcd.l0]) ?_
    rcases Nat.eq_zero_or_pos b with h | h
    · subst h
      exact Ev.pos (by omega) ((Ev.now _).cast (by simp))
    · refine Ev.neg (by omega) ?_
      rw [← Int.ofNat_tmod]
      refine Ev.cast (ih (a % b) (Nat.mod_lt _ h) b) ?_
      rw [Nat.gcd_comm, ← Nat.gcd_rec, Nat.gcd_comm]
theorem impl_gcd.ev {a b : Int} (ha : 0 ≤ a) (hb : 0 ≤ b) : Ev (fun k => impl_gcd.f k a b) ((Nat.gcd a.toNat b.toNat : Nat) : Int) := by
  unfold impl_gcd.f
  obtain ⟨a, rfl⟩ := Int.eq_ofNat_of_zero_le ha
  obtain ⟨b, rfl⟩ := Int.eq_ofNat_of_zero_le hb
  exact impl_gcd.nat b a

-- NEEDS Share
theorem impl_shareOf.ev {n d : Int} (h0 : 0 ≤ n) (h1 : n ≤ 9223372036854775807) (h2 : 1 ≤ d) (h3 : d ≤ 9223372036854775807) : Ev (fun k => impl_shareOf.f k n d) (shareO n d) := by
  unfold impl_shareOf.f
  refine Ev.bind (impl_gcd.ev h0 (by omega)) ?_
  have hg : 0 < Nat.gcd n.toNat d.toNat := Nat.gcd_pos_of_pos_right _ (by omega)
  refine Ev.neg (by omega) ((Ev.now _).cast ?_)
  obtain ⟨n, rfl⟩ := Int.eq_ofNat_of_zero_le h0
  obtain ⟨d, rfl⟩ := Int.eq_ofNat_of_zero_le (show 0 ≤ d by omega)
  simp only [Int.toNat_natCast] at hg ⊢
  have e1 : wrap64 (Int.tdiv (n : Int) (Nat.gcd n d : Nat)) = ((n / Nat.gcd n d : Nat) : Int) := by
    rw [← Int.ofNat_tdiv]
    have := Nat.div_le_self n (Nat.gcd n d)
    exact wrap_id (Int.le_trans (by decide) (Int.natCast_nonneg _)) (Int.le_trans (Int.ofNat_le.2 this) (by omega))
  have e2 : wrap64 (Int.tdiv (d : Int) (Nat.gcd n d : Nat)) = ((d / Nat.gcd n d : Nat) : Int) := by
    rw [← Int.ofNat_tdiv]
    have := Nat.div_le_self d (Nat.gcd n d)
    exact wrap_id (Int.le_trans (by decide) (Int.natCast_nonneg _)) (Int.le_trans (Int.ofNat_le.2 this) (by omega))
  simp only [shareO, Int.toNat_natCast, e1, e2]

end Go.Proofs.Ythjnmfacdlgbbaa.P
