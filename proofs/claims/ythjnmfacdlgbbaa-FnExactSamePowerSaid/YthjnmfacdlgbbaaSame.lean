/- Plain words of mine on members in groups of the same power. No condition. -/
import Derived.Test.YthjnmfacdlgbbaaPow
import Derived.Test.YthjnmfacdlgbbaaHof
namespace Go.Proofs.YthjnmfacdlgbbaaW.PrintMore
open Go.RowKit Go.Proofs.YthjnmfacdlgbbaaW.PrintWords Go.Proofs.YthjnmfacdlgbbaaW.PrintLast
set_option linter.unusedVariables false
/-- Has the group's first member what k has? -/
def fitsS {α : Type} [DecidableEq α] (P : Nat → α) (k : Nat) (g : List Int) : Bool := decide (P (g.getD 0 0).toNat = P k)
/-- The member k put into the first group that fits, or into a new one. -/
def putS {α : Type} [DecidableEq α] (P : Nat → α) (out : List (List Int)) (k : Nat) : List (List Int) :=
  match out.findIdx? (fitsS P k) with
  | none => out ++ [[(k : Int)]]
  | some i => out.set i (out.getD i [] ++ [(k : Int)])
/-- What counts of a member: its swings and its pivots. -/
def sameP (ss ps : List Int) : Nat → Int × Int := fun i => (ss.getD i 0, ps.getD i 0)
def sameS {α : Type} [DecidableEq α] (P : Nat → α) (n : Nat) : List (List Int) := (List.range n).foldl (putS P) []
theorem sameS_succ {α : Type} [DecidableEq α] (P : Nat → α) (n : Nat) : sameS P (n + 1) = putS P (sameS P n) n := by
  unfold sameS
  rw [List.range_succ, List.foldl_append]
  rfl
/-- The last place that fits, from what was found before on. -/
def lastS (p : List Int → Bool) : Int → Nat → List (List Int) → Int
  | a, _, [] => a
  | a, i, g :: r => lastS p (if p g = true then (i : Int) else a) (i + 1) r
theorem lastS_none (p : List Int → Bool) : ∀ (l : List (List Int)) (a : Int) (i : Nat), (∀ g ∈ l, p g = false) → lastS p a i l = a := by
  intro l
  induction l with
  | nil => intro a i _; rfl
  | cons g r ih =>
    intro a i h
    rw [lastS, h g List.mem_cons_self, if_neg (by decide)]
    exact ih a (i + 1) (fun x hx => h x (List.mem_cons_of_mem _ hx))
/-- Where at most one place fits, the last is the first. -/
theorem lastS_first (p : List Int → Bool) : ∀ (l : List (List Int)) (a : Int) (i : Nat), l.Pairwise (fun x y => ¬ (p x = true ∧ p y = true)) → lastS p a i l = match l.findIdx? p with | none => a | some j => ((i + j : Nat) : Int) := by
  intro l
  induction l with
  | nil => intro a i _; rfl
  | cons g r ih =>
    intro a i h
    obtain ⟨h1, h2⟩ := List.pairwise_cons.1 h
    rw [lastS, List.findIdx?_cons]
    by_cases hg : p g = true
    · rw [if_pos hg, if_pos hg, lastS_none p r _ _ (fun x hx => by have := h1 x hx; simp only [hg, true_and, Bool.not_eq_true] at this; exact this)]
      simp
    · rw [if_neg hg, if_neg hg, ih a (i + 1) h2]
      cases r.findIdx? p with
      | none => rfl
      | some j => simp only [Option.map_some]; congr 1; omega
/-- What a group's first member has. -/
def headS {α : Type} (P : Nat → α) (g : List Int) : α := P (g.getD 0 0).toNat
theorem headS_snoc {α : Type} (P : Nat → α) {g : List Int} (h : 1 ≤ g.length) (x : Int) : headS P (g ++ [x]) = headS P g := by
  cases g with
  | nil => simp at h
  | cons a r => rfl
theorem sameS_inv {α : Type} [DecidableEq α] (P : Nat → α) : ∀ n : Nat, (∀ g ∈ sameS P n, 1 ≤ g.length ∧ g.length ≤ n ∧ ∀ x ∈ g, 0 ≤ x ∧ x < (n : Int)) ∧ (sameS P n).length ≤ n ∧ ((sameS P n).map (headS P)).Nodup := by
  intro n
  induction n with
  | zero => simp [sameS]
  | succ n ih =>
    obtain ⟨h1, h2, h3⟩ := ih
    rw [sameS_succ]
    generalize sameS P n = out at h1 h2 h3
    have hw : ∀ g ∈ out, 1 ≤ g.length ∧ g.length ≤ n + 1 ∧ ∀ x ∈ g, 0 ≤ x ∧ x < ((n + 1 : Nat) : Int) := fun g hg => by
      obtain ⟨a, b, c⟩ := h1 g hg
      exact ⟨a, by omega, fun x hx => by have := c x hx; omega⟩
    unfold putS
    cases hf : out.findIdx? (fitsS P n) with
    | none =>
      refine ⟨fun g hg => ?_, by simp; omega, ?_⟩
      · rcases List.mem_append.1 hg with hg | hg
        · exact hw g hg
        · obtain rfl := List.mem_singleton.1 hg
          refine ⟨by simp, by simp, fun x hx => ?_⟩
          obtain rfl := List.mem_singleton.1 hx
          omega
      · have hno := List.findIdx?_eq_none_iff.1 hf
        rw [List.map_append, List.nodup_append]
        refine ⟨h3, by simp, fun a ha b hb => ?_⟩
        obtain ⟨g, hg, rfl⟩ := List.mem_map.1 ha
        have hb2 : b = headS P [(n : Int)] := by simpa using hb
        subst hb2
        have h5 := hno g hg
        unfold fitsS at h5
        exact of_decide_eq_false h5
    | some i =>
      obtain ⟨hi, -⟩ := List.findIdx?_eq_some_iff_getElem.1 hf
      have hgi : out.getD i [] = out[i] := by simp [hi]
      dsimp only
      rw [hgi]
      have hg := h1 out[i] (List.getElem_mem hi)
      refine ⟨fun g hm => ?_, by simp; omega, ?_⟩
      · rcases List.mem_or_eq_of_mem_set hm with hm | rfl
        · exact hw g hm
        · refine ⟨by simp, by simp; omega, fun x hx => ?_⟩
          rcases List.mem_append.1 hx with hx | hx
          · have := hg.2.2 x hx
            omega
          · obtain rfl := List.mem_singleton.1 hx
            omega
      · rw [List.map_set, headS_snoc P hg.1]
        have e : (out.map (headS P)).set i (headS P out[i]) = out.map (headS P) := by
          have h6 : i < (out.map (headS P)).length := by simpa using hi
          have h7 : headS P out[i] = (out.map (headS P))[i] := by simp
          rw [h7, List.set_getElem_self]
        rw [e]
        exact h3
theorem sameS_one {α : Type} [DecidableEq α] (P : Nat → α) (n k : Nat) : (sameS P n).Pairwise (fun x y => ¬ (fitsS P k x = true ∧ fitsS P k y = true)) := by
  have h := (sameS_inv P n).2.2
  unfold List.Nodup at h
  rw [List.pairwise_map] at h
  refine h.imp (fun {a b} hab hf => hab ?_)
  have h1 : headS P a = P k := of_decide_eq_true hf.1
  have h2 : headS P b = P k := of_decide_eq_true hf.2
  rw [h1, h2]
theorem sameS_last {α : Type} [DecidableEq α] (P : Nat → α) (n k : Nat) : lastS (fitsS P k) (-1) 0 (sameS P n) = match (sameS P n).findIdx? (fitsS P k) with | none => -1 | some j => (j : Int) := by
  rw [lastS_first _ _ _ _ (sameS_one P n k)]
  cases (sameS P n).findIdx? (fitsS P k) with
  | none => rfl
  | some j => simp
theorem idxOf_find {α : Type} (p : α → Bool) (l : List α) : idxOf p l = match l.findIdx? p with | none => -1 | some i => (i : Int) := by
  induction l with
  | nil => rfl
  | cons x r ih =>
    rw [idxOf, List.findIdx?_cons]
    by_cases hx : p x = true
    · rw [if_pos hx, if_pos hx]
      rfl
    · rw [if_neg hx, if_neg hx, ih]
      cases r.findIdx? p with
      | none => rfl
      | some j =>
        show (if (j : Int) < 0 then -1 else (j : Int) + 1) = ((j + 1 : Nat) : Int)
        rw [if_neg (by omega)]
        omega
theorem one_row (e : Nat) (W : World) (base : Nat) (hb : base ≤ W.heap.size) (k : Int) : Kd.R (Kd.int .i64) e (W.alloc (.cells #[.int .i64 k] e)) base (fun b_ => b_ = W.heap.size) (.slice (some ⟨W.heap.size, 0, none⟩) 1 1) [k] := by
  refine ⟨fun k_ hk => ?_, [.int .i64 k], ?_, ?_⟩
  · have : W.heap.size = k_ := by simpa [Value.ownBlock] using hk
    exact this.symm
  · have h2 := World.ownsRow_lit (base := base) (e := e) (size := 1) W #[.int .i64 k] 1 hb (by decide) (by simp)
    have h3 : (W.alloc (.cells #[.int .i64 k] e)).ownsRow base e 1 (.slice (some ⟨W.heap.size, 0, none⟩) 1 1) 1 [.int .i64 k] := by simpa using h2
    exact h3
  · exact Reps.snoc (Reps.none _ _) (show [Value.int .i64 k] = [Value.int .i64 k] from rfl) rfl
/-- The groups of a committee's members. -/
def sameC (q : Int) (l : List Int) : List (List Int) := sameS (sameP ((List.range l.length).map fun m => cntN (isSw (winsC q l) m) (2 ^ l.length)) ((List.range l.length).map fun m => sumN (isSw (winsC q l) m) (pivF l.length) (2 ^ l.length))) l.length
theorem sameC_len (q : Int) (l : List Int) : (sameC q l).length ≤ l.length ∧ ∀ s ∈ sameC q l, s.length ≤ l.length := by
  obtain ⟨h1, h2, -⟩ := sameS_inv (sameP ((List.range l.length).map fun m => cntN (isSw (winsC q l) m) (2 ^ l.length)) ((List.range l.length).map fun m => sumN (isSw (winsC q l) m) (pivF l.length) (2 ^ l.length))) l.length
  exact ⟨h2, fun s hs => (h1 s hs).2.1⟩
/-- How many numbers the rows hold. -/
def lenR : List (List Int) → Int
  | [] => 0
  | s :: r => (s.length : Int) + lenR r
/-- Numbers one after another, in rows of the same lengths. -/
def rowsI : Int → List (List Int) → List (List Int)
  | _, [] => []
  | a, s :: r => seqI a s.length :: rowsI (a + (s.length : Int)) r
theorem lenR_nonneg : ∀ L : List (List Int), 0 ≤ lenR L
  | [] => Int.le_refl 0
  | s :: r => by
    have h := lenR_nonneg r
    show 0 ≤ (s.length : Int) + lenR r
    omega
theorem lenR_le (m : Nat) : ∀ L : List (List Int), (∀ s ∈ L, s.length ≤ m) → lenR L ≤ (L.length : Int) * (m : Int)
  | [], _ => by simp [lenR]
  | s :: r, h => by
    have h1 := lenR_le m r (fun x hx => h x (List.mem_cons_of_mem _ hx))
    have h2 := h s List.mem_cons_self
    show (s.length : Int) + lenR r ≤ _
    rw [List.length_cons, Int.natCast_add, Int.add_mul]
    omega
theorem rowsI_length : ∀ (a : Int) (L : List (List Int)), (rowsI a L).length = L.length
  | _, [] => rfl
  | a, s :: r => by rw [rowsI, List.length_cons, List.length_cons, rowsI_length]
theorem lenR_take : ∀ (L : List (List Int)) (i : Nat) (h : i < L.length), lenR (L.take (i + 1)) = lenR (L.take i) + (L[i].length : Int)
  | s :: r, 0, _ => by simp [lenR]
  | s :: r, i + 1, h => by
    have h1 := lenR_take r i (by simpa using h)
    simp only [List.take_succ_cons, lenR, List.getElem_cons_succ]
    rw [h1]
    omega
theorem rowsI_at : ∀ (a : Int) (L : List (List Int)) (i : Nat) (h : i < L.length), (rowsI a L)[i]? = some (seqI (a + lenR (L.take i)) L[i].length)
  | a, s :: r, 0, _ => by simp [rowsI, lenR]
  | a, s :: r, i + 1, h => by
    have h1 := rowsI_at (a + (s.length : Int)) r i (by simpa using h)
    simp only [rowsI, List.getElem?_cons_succ, List.take_succ_cons, lenR, List.getElem_cons_succ]
    rw [h1, Int.add_assoc]
theorem lenR_take_le : ∀ (L : List (List Int)) (i : Nat), lenR (L.take i) ≤ lenR L
  | [], i => by simp [lenR]
  | s :: r, 0 => by simpa [lenR] using lenR_nonneg (s :: r)
  | s :: r, i + 1 => by
    have h := lenR_take_le r i
    simp only [List.take_succ_cons, lenR]
    omega
end Go.Proofs.YthjnmfacdlgbbaaW.PrintMore
