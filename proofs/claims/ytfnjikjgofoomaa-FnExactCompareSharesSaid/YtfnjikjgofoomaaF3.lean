/- Plain facts of mine on printed functions: what they answer. No Go, no memory. -/
import Derived.Test.YtfnjikjgofoomaaPx3
import Derived.Test.YtfnjikjgofoomaaEv
import Derived.Test.YtfnjikjgofoomaaF1
import Derived.Test.YtfnjikjgofoomaaShare
import Derived.Test.YtfnjikjgofoomaaShare
namespace Go.Proofs.Ytfnjikjgofoomaa.P
open Go.RowKit Go.Proofs.YtfnjikjgofoomaaW.PrintWords Go.Proofs.YtfnjikjgofoomaaW.PrintLast Go.Proofs.YtfnjikjgofoomaaW.PrintMore
set_option linter.unusedVariables false
set_option linter.unusedSimpArgs false

theorem spec_pwCommon.nat (b : Nat) : ∀ a : Nat, Ev (fun k => spec_pwCommon.l0 k (a : Int) (b : Int)) ((Nat.gcd a b : Nat) : Int) := by
  induction b using Nat.strongRecOn with
  | _ b ih =>
    intro a
    refine Ev.step (fun k => by rw [spec_pwCommon.l0]) ?_
    rcases Nat.eq_zero_or_pos b with h | h
    · subst h
      exact Ev.neg (by omega) ((Ev.now _).cast (by simp))
    · refine Ev.pos (by omega) (Ev.neg (by omega) ?_)
      rw [← Int.ofNat_tmod]
      refine Ev.cast (ih (a % b) (Nat.mod_lt _ h) b) ?_
      rw [Nat.gcd_comm, ← Nat.gcd_rec, Nat.gcd_comm]
theorem spec_pwCommon.ev {a b : Int} (ha : 0 ≤ a) (hb : 0 ≤ b) : Ev (fun k => spec_pwCommon.f k a b) ((Nat.gcd a.toNat b.toNat : Nat) : Int) := by
  unfold spec_pwCommon.f
  obtain ⟨a, rfl⟩ := Int.eq_ofNat_of_zero_le ha
  obtain ⟨b, rfl⟩ := Int.eq_ofNat_of_zero_le hb
  exact spec_pwCommon.nat b a

-- NEEDS Share
theorem spec_pwGood.ev (n d : Int) : Ev (fun k => spec_pwGood.f k n d) (goodS n d) := by
  unfold spec_pwGood.f
  refine Ev.one (spec_l1In.eq _ _ _) ?_
  cases h1 : inB 1 1000000 d with
  | false => exact Ev.neg (by decide) ((Ev.now _).cast (by simp [goodS, h1]))
  | true =>
    refine Ev.pos rfl (Ev.one (spec_l1In.eq _ _ _) ?_)
    cases h2 : inB 0 d n with
    | false => exact Ev.neg (by decide) ((Ev.now _).cast (by simp [goodS, h2]))
    | true =>
      have h3 := inB_iff.1 h1
      have h4 := inB_iff.1 h2
      exact Ev.pos rfl (Ev.bind (spec_pwCommon.ev (by omega) (by omega)) ((Ev.now _).cast (by simp [goodS, h1, h2])))

theorem laws_toShare.eq (a b : Int) : laws_toShare.f a b = some (a, b) := rfl

theorem impl_gcd.nat (b : Nat) : ∀ a : Nat, Ev (fun k => impl_gcd.l0 k (a : Int) (b : Int)) ((Nat.gcd a b : Nat) : Int) := by
  induction b using Nat.strongRecOn with
  | _ b ih =>
    intro a
    refine Ev.step (fun k => by rw [impl_gcd.l0]) ?_
    rcases Nat.eq_zero_or_pos b with h | h
    · subst h
      exact Ev.pos (by omega) ((Ev.now _).cast (by simp))
    · refine Ev.neg (by omega) ?_
      rw [← Int.ofNat_tmod]
      refine Ev.cast (ih (a % b) (Nat.mod_lt _ h) b) ?_
      rw [Nat.gcd_comm, ← Nat.gcd_rec, Nat.gcd_comm]
theorem impl_gcd.ev {a b : Int} (ha : 0 ≤ a) (hb : 0 ≤ b) : Ev (fun k => impl_gcd.f k a b) ((Nat.gcd a.toNat b.toNat : Nat) : Int) := by
  unfold impl_gcd.f
  obtain ⟨a, rfl⟩ := Int.eq_ofNat_of_zero_le ha
  obtain ⟨b, rfl⟩ := Int.eq_ofNat_of_zero_le hb
  exact impl_gcd.nat b a

-- NEEDS Share
theorem impl_isShare.ev (n d : Int) : Ev (fun k => impl_isShare.f k n d) (goodS n d) := by
  unfold impl_isShare.f
  refine Ev.one (impl_within.eq _ _ _) ?_
  cases h1 : inB 1 1000000 d with
  | false => exact Ev.neg (by decide) ((Ev.now _).cast (by simp [goodS, h1]))
  | true =>
    refine Ev.pos rfl (Ev.one (impl_within.eq _ _ _) ?_)
    cases h2 : inB 0 d n with
    | false => exact Ev.neg (by decide) ((Ev.now _).cast (by simp [goodS, h2]))
    | true =>
      have h3 := inB_iff.1 h1
      have h4 := inB_iff.1 h2
      exact Ev.pos rfl (Ev.bind (impl_gcd.ev (by omega) (by omega)) ((Ev.now _).cast (by simp [goodS, h1, h2])))

end Go.Proofs.Ytfnjikjgofoomaa.P
