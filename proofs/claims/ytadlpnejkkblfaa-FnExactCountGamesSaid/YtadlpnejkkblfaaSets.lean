/- Plain words of mine on sets, masks, winning sets; rows of marks. No condition. -/
import Derived.Test.YtadlpnejkkblfaaWin
namespace Go.Proofs.YtadlpnejkkblfaaW.PrintMore
open Go.RowKit Go.Proofs.YtadlpnejkkblfaaW.PrintWords Go.Proofs.YtadlpnejkkblfaaW.PrintLast
set_option linter.unusedVariables false
theorem wt_zero (l : List Int) : wt l 0 = 0 := by
  induction l with
  | nil => rfl
  | cons x r ih => simp [wt, ih]
theorem wt_single (l : List Int) : ∀ (k : Nat) (h : k < l.length), wt l (2 ^ k) = l[k] := by
  induction l with
  | nil => intro k h; simp at h
  | cons x r ih =>
    intro k h
    cases k with
    | zero => simp [wt, wt_zero]
    | succ k =>
      have h1 : 2 ^ (k + 1) % 2 = 0 := by rw [Nat.pow_succ]; exact Nat.mul_mod_left _ _
      have h2 : 2 ^ (k + 1) / 2 = 2 ^ k := by rw [Nat.pow_succ]; exact Nat.mul_div_cancel _ (by omega)
      rw [wt, if_neg (by omega), h2, ih k (by simpa using h)]
      simp
theorem wt_compl (l : List Int) : ∀ m, m < 2 ^ l.length → wt l (2 ^ l.length - 1 - m) = l.sum - wt l m := by
  induction l with
  | nil => intro m h; simp [wt]
  | cons x r ih =>
    intro m h
    rw [List.length_cons, Nat.pow_succ] at h ⊢
    have h1 := ih (m / 2) (by omega)
    have h2 : (2 ^ r.length * 2 - 1 - m) / 2 = 2 ^ r.length - 1 - m / 2 := by omega
    rw [wt, wt, h2, h1, List.sum_cons]
    by_cases hm : m % 2 = 1
    · rw [if_pos hm, if_neg (by omega)]
      omega
    · rw [if_neg hm, if_pos (by omega)]
      omega
/-- Does no set win together with all the others? -/
def properL (ws : List Bool) (N : Nat) : Bool := (List.range N).all fun m => !(ws.getD m false && ws.getD (N - 1 - m) false)
def strongL (ws : List Bool) (N : Nat) : Bool := (List.range N).all fun m => ws.getD m false || ws.getD (N - 1 - m) false
def countL (ws : List Bool) : Int := ((ws.filter id).length : Int)
/-- The range from i on. -/
theorem all_from (p : Nat → Bool) (N i : Nat) (h : i < N) : ((List.range N).drop i).all p = (p i && ((List.range N).drop (i + 1)).all p) := by
  rw [drop_all _ _ _ (by simpa using h)]
  simp
theorem count_take {ws : List Bool} {i : Nat} (h : i < ws.length) : countL (ws.take (i + 1)) = countL (ws.take i) + if ws[i] = true then 1 else 0 := by
  unfold countL
  rw [List.take_succ_eq_append_getElem h, List.filter_append]
  cases hb : ws[i] <;> simp
theorem count_le (ws : List Bool) : 0 ≤ countL ws ∧ countL ws ≤ ws.length := by
  unfold countL
  have := List.length_filter_le id ws
  omega
theorem getD_at {ws : List Bool} {i : Nat} (h : i < ws.length) : ws.getD i false = ws[i] := by simp [h]
/-- Increasing numbers. -/
def risingL (l : List Int) : Bool := (List.range l.length).all fun i => decide (i = 0 ∨ l.getD (i - 1) 0 < l.getD i 0)
theorem all_and {α : Type} (p q : α → Bool) (l : List α) : l.all (fun x => p x && q x) = (l.all p && l.all q) := by
  induction l with
  | nil => rfl
  | cons a r ih =>
    simp only [List.all_cons, ih]
    cases p a <;> cases q a <;> simp
theorem all_range (p : Int → Bool) (l : List Int) : (List.range l.length).all (fun i => p (l.getD i 0)) = l.all p := by
  rw [Bool.eq_iff_iff, List.all_eq_true, List.all_eq_true]
  constructor
  · intro h x hx
    obtain ⟨i, hi, rfl⟩ := List.mem_iff_getElem.1 hx
    have := h i (by simpa using hi)
    simpa [hi] using this
  · intro h i hi
    have hi' : i < l.length := by simpa using hi
    have := h l[i] (List.getElem_mem hi')
    simpa [hi'] using this
theorem getI_at {l : List Int} {i : Nat} (h : i < l.length) : l.getD i 0 = l[i] := by simp [h]
/-- A set of n members. -/
def setOK (n : Int) (l : List Int) : Bool := l.all (inB 0 (n - 1)) && risingL l
/-- A set as bits. -/
def maskL (l : List Int) : Nat := l.foldl (fun m x => m ||| 2 ^ x.toNat) 0
theorem maskL_take {l : List Int} {i : Nat} (h : i < l.length) : maskL (l.take (i + 1)) = maskL (l.take i) ||| 2 ^ (l[i]).toNat := by
  unfold maskL
  rw [List.take_succ_eq_append_getElem h, List.foldl_append]
  rfl
theorem maskL_lt {l : List Int} {n : Nat} (h : ∀ x ∈ l, x.toNat < n) : maskL l < 2 ^ n := by
  unfold maskL
  have key : ∀ (r : List Int) (m : Nat), (∀ x ∈ r, x.toNat < n) → m < 2 ^ n → r.foldl (fun m x => m ||| 2 ^ x.toNat) m < 2 ^ n := by
    intro r
    induction r with
    | nil => intro m _ hm; exact hm
    | cons x r ih =>
      intro m hr hm
      rw [List.foldl_cons]
      exact ih _ (fun y hy => hr y (List.mem_cons_of_mem _ hy)) (Nat.or_lt_two_pow hm (Nat.pow_lt_pow_right (by omega) (hr x List.mem_cons_self)))
  exact key l 0 h (Nat.two_pow_pos n)
/-- Numbers from k on. -/
def seqI (k : Int) (n : Nat) : List Int := (List.range n).map fun (i : Nat) => k + (i : Int)
theorem seqI_length (k : Int) (n : Nat) : (seqI k n).length = n := by simp [seqI]
theorem seqI_at (k : Int) (n i : Nat) (h : i < (seqI k n).length) : (seqI k n)[i] = k + (i : Int) := by simp [seqI]
end Go.Proofs.YtadlpnejkkblfaaW.PrintMore
