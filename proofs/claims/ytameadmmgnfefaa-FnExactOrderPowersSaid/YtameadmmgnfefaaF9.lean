/- Plain facts of mine on printed functions: what they answer. No Go, no memory. -/
import Derived.Test.YtameadmmgnfefaaPx9
import Derived.Test.YtameadmmgnfefaaEv
import Derived.Test.YtameadmmgnfefaaF7
import Derived.Test.YtameadmmgnfefaaPow
import Derived.Test.YtameadmmgnfefaaPow
namespace Go.Proofs.Ytameadmmgnfefaa.P
open Go.RowKit Go.Proofs.YtameadmmgnfefaaW.PrintWords Go.Proofs.YtameadmmgnfefaaW.PrintLast Go.Proofs.YtameadmmgnfefaaW.PrintMore
set_option linter.unusedVariables false
set_option linter.unusedSimpArgs false

theorem laws_eqShareS.ev (l : List S48) (hn : l.length ≤ 9223372036854775807) : Ev (fun k => laws_eqShareS.f k l l) true := by
  unfold laws_eqShareS.f
  refine Ev.pos rfl ?_
  have h := down (P := fun i => Ev (fun k => laws_eqShareS.l0 k l l (i : Int)) true) l.length ?_ ?_ 0 (Nat.zero_le _)
  · exact h
  · refine Ev.step (fun k => by rw [laws_eqShareS.l0]) ?_
    exact Ev.neg (by omega) (Ev.now _)
  · intro i hi ih
    refine Ev.step (fun k => by rw [laws_eqShareS.l0]) ?_
    refine Ev.pos (by omega) (Ev.pos (by omega) (Ev.pos (by omega) (Ev.one (laws_eqShare.eq _ _) (Ev.pos rfl ?_))))
    rw [wrap_next hi hn]
    exact ih

-- NEEDS Pow
/-- Shares marked from k on. -/
def laws_markShareS.seq (k : Int) (n : Nat) : List S48 := (List.range n).map fun (i : Nat) => ⟨k + 2 * (i : Int), k + 2 * (i : Int) + 1⟩
theorem laws_markShareS.seq_length (k : Int) (n : Nat) : (laws_markShareS.seq k n).length = n := by simp [laws_markShareS.seq]
theorem laws_markShareS.seq_next (k : Int) (n : Nat) : laws_markShareS.seq k (n + 1) = laws_markShareS.seq k n ++ [⟨k + 2 * (n : Int), k + 2 * (n : Int) + 1⟩] := by
  unfold laws_markShareS.seq
  rw [List.range_succ, List.map_append]
  rfl
theorem laws_markShareS.ev (l : List S48) (k0 : Int) (h0 : 0 ≤ k0) (h1 : k0 ≤ 1000000000000) (hn : l.length ≤ 1000000000000) : Ev (fun k => laws_markShareS.f k l k0) (k0 + 2 * l.length, laws_markShareS.seq k0 l.length) := by
  unfold laws_markShareS.f
  have h := down (P := fun i => Ev (fun k => laws_markShareS.l0 k (laws_markShareS.seq k0 i ++ l.drop i) (k0 + 2 * i) (i : Int)) (k0 + 2 * l.length, laws_markShareS.seq k0 l.length)) l.length ?_ ?_ 0 (Nat.zero_le _)
  · simpa [laws_markShareS.seq] using h
  · refine Ev.step (fun k => by rw [laws_markShareS.l0]) ?_
    exact Ev.neg (by simp [laws_markShareS.seq]) ((Ev.now _).cast (by simp))
  · intro i hi ih
    refine Ev.step (fun k => by rw [laws_markShareS.l0]) ?_
    have hl := laws_markShareS.seq_length k0 i
    refine Ev.pos (by simp [laws_markShareS.seq]; omega) (Ev.pos (by omega) (Ev.one rfl ?_))
    rw [Int.toNat_natCast, List.drop_eq_getElem_cons hi, set_mid _ _ _ _ hl]
    have e : ∀ (v : S48), rd_T48 (laws_markShareS.seq k0 i ++ v :: l.drop (i + 1)) (i : Int) = v := by
      intro v
      simp [rd_T48, hl]
    have e1 : wrap64 (k0 + 2 * (i : Int) + 1) = k0 + 2 * (i : Int) + 1 := wrap_id (by omega) (by omega)
    have e2 : wrap64 (k0 + 2 * (i : Int) + 1 + 1) = k0 + 2 * ((i + 1 : Nat) : Int) := by rw [wrap_id (by omega) (by omega)]; omega
    have e3 : laws_markShareS.seq k0 i ++ (⟨k0 + 2 * (i : Int), k0 + 2 * (i : Int) + 1⟩ : S48) :: l.drop (i + 1) = laws_markShareS.seq k0 (i + 1) ++ l.drop (i + 1) := by rw [laws_markShareS.seq_next, List.append_assoc]; rfl
    simp only [e]
    rw [set_mid _ _ _ _ hl, e1, e2, wrap_next hi (by omega), e3]
    exact ih

-- NEEDS Pow
theorem laws_heldShareS.ev (n : Nat) (k0 : Int) (h0 : 0 ≤ k0) (h1 : k0 ≤ 1000000000000) (hn : n ≤ 1000000000000) : Ev (fun k => laws_heldShareS.f k (laws_markShareS.seq k0 n) k0) (k0 + 2 * n) := by
  unfold laws_heldShareS.f
  have hl := laws_markShareS.seq_length k0 n
  have h := down (P := fun i => Ev (fun k => laws_heldShareS.l0 k (laws_markShareS.seq k0 n) (k0 + 2 * i) (i : Int)) (k0 + 2 * n)) n ?_ ?_ 0 (Nat.zero_le _)
  · simpa using h
  · refine Ev.step (fun k => by rw [laws_heldShareS.l0]) ?_
    exact Ev.neg (by omega) (Ev.now _)
  · intro i hi ih
    refine Ev.step (fun k => by rw [laws_heldShareS.l0]) ?_
    have e : rd_T48 (laws_markShareS.seq k0 n) (i : Int) = ⟨k0 + 2 * (i : Int), k0 + 2 * (i : Int) + 1⟩ := by simp [rd_T48, laws_markShareS.seq, hi]
    have e1 : wrap64 (k0 + 2 * (i : Int) + 1) = k0 + 2 * (i : Int) + 1 := wrap_id (by omega) (by omega)
    have e2 : wrap64 (k0 + 2 * (i : Int) + 1 + 1) = k0 + 2 * ((i + 1 : Nat) : Int) := by rw [wrap_id (by omega) (by omega)]; omega
    rw [e, e1, e2, wrap_next hi (by omega)]
    exact Ev.pos (by omega) (Ev.pos (by omega) (Ev.pos rfl (Ev.pos rfl ih)))

end Go.Proofs.Ytameadmmgnfefaa.P
