/- Plain facts of mine on printed functions: what they answer. No Go, no memory. -/
import Derived.Test.YtameadmmgnfefaaPx4
import Derived.Test.YtameadmmgnfefaaEv
import Derived.Test.YtameadmmgnfefaaShare
namespace Go.Proofs.Ytameadmmgnfefaa.P
open Go.RowKit Go.Proofs.YtameadmmgnfefaaW.PrintWords Go.Proofs.YtameadmmgnfefaaW.PrintLast Go.Proofs.YtameadmmgnfefaaW.PrintMore
set_option linter.unusedVariables false
set_option linter.unusedSimpArgs false

theorem spec_pwCommon.nat (b : Nat) : ∀ a : Nat, Ev (fun k => spec_pwCommon.l0 k (a : Int) (b : Int)) ((Nat.gcd a b : Nat) : Int) := by
  induction b using Nat.strongRecOn with
  | _ b ih =>
    intro a
    refine Ev.step (fun k => by rw [spec_pwCommon.l0]) ?_
    rcases Nat.eq_zero_or_pos b with h | h
    · subst h
      exact Ev.neg (by omega) ((Ev.now _).cast (by simp))
    · refine Ev.pos (by omega) (Ev.neg (by omega) ?_)
      rw [← Int.ofNat_tmod]
      refine Ev.cast (ih (a % b) (Nat.mod_lt _ h) b) ?_
      rw [Nat.gcd_comm, ← Nat.gcd_rec, Nat.gcd_comm]
theorem spec_pwCommon.ev {a b : Int} (ha : 0 ≤ a) (hb : 0 ≤ b) : Ev (fun k => spec_pwCommon.f k a b) ((Nat.gcd a.toNat b.toNat : Nat) : Int) := by
  unfold spec_pwCommon.f
  obtain ⟨a, rfl⟩ := Int.eq_ofNat_of_zero_le ha
  obtain ⟨b, rfl⟩ := Int.eq_ofNat_of_zero_le hb
  exact spec_pwCommon.nat b a

-- NEEDS Share
theorem spec_pwShare.ev {n d : Int} (h0 : 0 ≤ n) (h1 : n ≤ 9223372036854775807) (h2 : 1 ≤ d) (h3 : d ≤ 9223372036854775807) : Ev (fun k => spec_pwShare.f k n d) (shareO n d) := by
  unfold spec_pwShare.f
  refine Ev.bind (spec_pwCommon.ev h0 (by omega)) ?_
  have hg : 0 < Nat.gcd n.toNat d.toNat := Nat.gcd_pos_of_pos_right _ (by omega)
  refine Ev.neg (by omega) ((Ev.now _).cast ?_)
  obtain ⟨n, rfl⟩ := Int.eq_ofNat_of_zero_le h0
  obtain ⟨d, rfl⟩ := Int.eq_ofNat_of_zero_le (show 0 ≤ d by omega)
  simp only [Int.toNat_natCast] at hg ⊢
  have e1 : wrap64 (Int.tdiv (n : Int) (Nat.gcd n d : Nat)) = ((n / Nat.gcd n d : Nat) : Int) := by
    rw [← Int.ofNat_tdiv]
    have := Nat.div_le_self n (Nat.gcd n d)
    exact wrap_id (Int.le_trans (by decide) (Int.natCast_nonneg _)) (Int.le_trans (Int.ofNat_le.2 this) (by omega))
  have e2 : wrap64 (Int.tdiv (d : Int) (Nat.gcd n d : Nat)) = ((d / Nat.gcd n d : Nat) : Int) := by
    rw [← Int.ofNat_tdiv]
    have := Nat.div_le_self d (Nat.gcd n d)
    exact wrap_id (Int.le_trans (by decide) (Int.natCast_nonneg _)) (Int.le_trans (Int.ofNat_le.2 this) (by omega))
  simp only [shareO, Int.toNat_natCast, e1, e2]

end Go.Proofs.Ytameadmmgnfefaa.P
