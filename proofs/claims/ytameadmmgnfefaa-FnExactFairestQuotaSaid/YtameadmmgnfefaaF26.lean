/- Plain facts of mine on printed functions: what they answer. No Go, no memory. -/
import Derived.Test.YtameadmmgnfefaaPx26
import Derived.Test.YtameadmmgnfefaaEv
import Derived.Test.YtameadmmgnfefaaF1
import Derived.Test.YtameadmmgnfefaaF13
import Derived.Test.YtameadmmgnfefaaF16
import Derived.Test.YtameadmmgnfefaaPow
import Derived.Test.YtameadmmgnfefaaPow
namespace Go.Proofs.Ytameadmmgnfefaa.P
open Go.RowKit Go.Proofs.YtameadmmgnfefaaW.PrintWords Go.Proofs.YtameadmmgnfefaaW.PrintLast Go.Proofs.YtameadmmgnfefaaW.PrintMore
set_option linter.unusedVariables false
set_option linter.unusedSimpArgs false

-- NEEDS Pow
/-- The best quota from x on: so far b (0: none) with v. -/
def fairGo (l : List Int) : Nat → Int → Int → Int → Int
  | 0, b, _, _ => b
  | n + 1, b, v, x => if b = 0 then fairGo l n x (farC x l) (x + 1) else if farC x l < v then fairGo l n x (farC x l) (x + 1) else fairGo l n b v (x + 1)
theorem good_any {q : Int} {l : List Int} (h : goodC q l = true) {x : Int} (h0 : 1 ≤ x) (h1 : x ≤ l.sum) : goodC x l = true := by
  obtain ⟨a1, a2, a3, a4, a5⟩ := goodC_iff.1 h
  exact goodC_iff.2 ⟨a1, a2, a3, h0, h1⟩
theorem far_good {x : Int} {l : List Int} (h : goodC x l = true) (hS : l.sum ≤ 60) : 0 ≤ farC x l ∧ farC x l ≤ 362880000 := far_le h (by omega) l.length (Nat.le_refl _)
theorem far_den {x : Int} {l : List Int} (h : goodC x l = true) (hS : l.sum ≤ 60) : 1 ≤ facI (l.length : Int) * l.sum ∧ facI (l.length : Int) * l.sum ≤ 362880 * 60 := by
  obtain ⟨h1, h2, h3, h4, h5⟩ := goodC_iff.1 h
  have hf := facI_le (d := (l.length : Int)) (by omega)
  have hD := mul_bd (show 0 ≤ facI (l.length : Int) by omega) (show facI (l.length : Int) ≤ 362880 by omega) (show 0 ≤ l.sum by omega) hS
  exact ⟨Int.mul_pos (by omega) (by omega), hD.2⟩
theorem spec_FairestQuota.loop (q : Int) (l : List Int) (h : goodC q l = true) (hS : l.sum ≤ 60) : ∀ (n : Nat) (b v x s1 s2 : Int), 1 ≤ x → x + n = l.sum + 1 → (b ≠ 0 → 0 ≤ v ∧ v ≤ 362880000 ∧ s1 = (shareO v (facI (l.length : Int) * l.sum)).1 ∧ s2 = (shareO v (facI (l.length : Int) * l.sum)).2) → Ev (fun k => spec_FairestQuota.l0 k b x q l s1 s2) (fairGo l n b v x, true) := by
  obtain ⟨h1, h2, h3, h4, h5⟩ := goodC_iff.1 h
  intro n
  induction n with
  | zero =>
    intro b v x s1 s2 hx hn hb
    refine Ev.step (fun k => by rw [spec_FairestQuota.l0]) ?_
    exact Ev.bind (spec_voSum.ev l 1000 h3 (by omega) (by omega)) (Ev.neg (by omega) (Ev.now _))
  | succ n ih =>
    intro b v x s1 s2 hx hn hb
    refine Ev.step (fun k => by rw [spec_FairestQuota.l0]) ?_
    have hg := good_any h hx (show x ≤ l.sum by omega)
    have hF := far_good hg hS
    have hD := far_den hg hS
    refine Ev.bind (spec_voSum.ev l 1000 h3 (by omega) (by omega)) (Ev.pos (by omega) (Ev.bind (spec_shFar.ev x l hg hS) ?_))
    rw [wrap_id (by omega) (by omega), fairGo]
    by_cases hb0 : b = 0
    · exact Ev.pos hb0 ((ih x (farC x l) (x + 1) _ _ (by omega) (by omega) (fun _ => ⟨hF.1, hF.2, rfl, rfl⟩)).cast (by rw [if_pos hb0]))
    · refine Ev.neg hb0 ?_
      rw [if_neg hb0]
      obtain ⟨v0, v1, e1, e2⟩ := hb hb0
      subst e1 e2
      have w1 := shareO_bd hF.1 hD.1
      have w2 := shareO_bd v0 hD.1
      have p1 := mul_bd w1.1 (show (shareO (farC x l) (facI (l.length : Int) * l.sum)).1 ≤ 362880000 by omega) w2.2.2.1 (show (shareO v (facI (l.length : Int) * l.sum)).2 ≤ 362880 * 60 by omega)
      have p2 := mul_bd w2.1 (show (shareO v (facI (l.length : Int) * l.sum)).1 ≤ 362880000 by omega) w1.2.2.1 (show (shareO (farC x l) (facI (l.length : Int) * l.sum)).2 ≤ 362880 * 60 by omega)
      refine Ev.one (spec_pwCompare.eq p1.1 (Int.le_trans p1.2 (by decide)) p2.1 (Int.le_trans p2.2 (by decide))) ?_
      rw [share_cmp hF.1 v0 hD.1]
      by_cases hc : farC x l < v
      · rw [if_pos hc]
        exact Ev.pos (by unfold sgn; rw [if_neg (by omega), if_pos (by omega)]; decide) (ih x (farC x l) (x + 1) _ _ (by omega) (by omega) (fun _ => ⟨hF.1, hF.2, rfl, rfl⟩))
      · rw [if_neg hc]
        refine Ev.neg ?_ (ih b v (x + 1) _ _ (by omega) (by omega) hb)
        unfold sgn
        by_cases e : farC x l - v > 0
        · rw [if_pos e]; decide
        · rw [if_neg e, if_neg (by omega)]; decide
theorem spec_FairestQuota.ev (q : Int) (l : List Int) (hn : l.length ≤ 9223372036854775807) : Ev (fun k => spec_FairestQuota.f k q l) (if (goodC q l && decide (l.sum ≤ 60)) = true then (fairGo l l.sum.toNat 0 0 1, true) else (0, false)) := by
  unfold spec_FairestQuota.f
  refine Ev.bind (spec_shScanned.ev q l hn) ?_
  cases h : (goodC q l && decide (l.sum ≤ 60)) with
  | false => exact Ev.neg (by decide) (Ev.now _)
  | true =>
    rw [Bool.and_eq_true, decide_eq_true_eq] at h
    obtain ⟨h1, h2, h3, h4, h5⟩ := goodC_iff.1 h.1
    exact Ev.pos rfl (spec_FairestQuota.loop q l h.1 h.2 l.sum.toNat 0 0 1 0 0 (by omega) (by omega) (fun hb => absurd rfl hb))

-- NEEDS Pow
theorem impl_FairestQuota.loop (q : Int) (l : List Int) (h : goodC q l = true) (hS : l.sum ≤ 60) : ∀ (n : Nat) (b v x : Int), 1 ≤ x → x + n = l.sum + 1 → Ev (fun k => impl_FairestQuota.l0 k b v x q l) (fairGo l n b v x, true) := by
  obtain ⟨h1, h2, h3, h4, h5⟩ := goodC_iff.1 h
  intro n
  induction n with
  | zero =>
    intro b v x hx hn
    refine Ev.step (fun k => by rw [impl_FairestQuota.l0]) ?_
    exact Ev.bind (impl_sumOf.ev l 1000 h3 (by omega) (by omega)) (Ev.neg (by omega) (Ev.now _))
  | succ n ih =>
    intro b v x hx hn
    refine Ev.step (fun k => by rw [impl_FairestQuota.l0]) ?_
    have hg := good_any h hx (show x ≤ l.sum by omega)
    refine Ev.bind (impl_sumOf.ev l 1000 h3 (by omega) (by omega)) (Ev.pos (by omega) (Ev.bind (impl_Committee_farthest.ev x l hg hS) ?_))
    rw [wrap_id (by omega) (by omega), fairGo]
    by_cases hb0 : b = 0
    · exact Ev.pos hb0 ((ih x (farC x l) (x + 1) (by omega) (by omega)).cast (by rw [if_pos hb0]))
    · refine Ev.neg hb0 ?_
      rw [if_neg hb0]
      by_cases hc : farC x l < v
      · rw [if_pos hc]
        exact Ev.pos hc (ih x (farC x l) (x + 1) (by omega) (by omega))
      · rw [if_neg hc]
        exact Ev.neg hc (ih b v (x + 1) (by omega) (by omega))
theorem impl_FairestQuota.ev (q : Int) (l : List Int) (hn : l.length ≤ 9223372036854775807) : Ev (fun k => impl_FairestQuota.f k q l) (if (goodC q l && decide (l.sum ≤ 60)) = true then (fairGo l l.sum.toNat 0 0 1, true) else (0, false)) := by
  unfold impl_FairestQuota.f
  refine Ev.bind (impl_isScanned.ev q l 60 hn) ?_
  cases h : (goodC q l && decide (l.sum ≤ 60)) with
  | false => exact Ev.neg (by decide) (Ev.now _)
  | true =>
    rw [Bool.and_eq_true, decide_eq_true_eq] at h
    obtain ⟨h1, h2, h3, h4, h5⟩ := goodC_iff.1 h.1
    exact Ev.pos rfl (impl_FairestQuota.loop q l h.1 h.2 l.sum.toNat 0 0 1 (by omega) (by omega))

end Go.Proofs.Ytameadmmgnfefaa.P
