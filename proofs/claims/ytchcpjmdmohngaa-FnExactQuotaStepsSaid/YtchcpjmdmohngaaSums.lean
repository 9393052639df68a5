/- Plain words of mine on increasing lists of sums of sets. No condition. -/
import Derived.Test.YtchcpjmdmohngaaPow
import Derived.Lib.SlicesCompact
namespace Go.Proofs.YtchcpjmdmohngaaW.PrintMore
open Go.RowKit Go.Proofs.YtchcpjmdmohngaaW.PrintWords Go.Proofs.YtchcpjmdmohngaaW.PrintLast
set_option linter.unusedVariables false
def upL (l : List Int) : Prop := l.Pairwise (fun a b => a < b)
/-- Two increasing lists of the same numbers are one. -/
theorem up_unique : ∀ a b : List Int, upL a → upL b → (∀ x, x ∈ a ↔ x ∈ b) → a = b := by
  intro a
  induction a with
  | nil =>
    intro b _ _ h
    cases b with
    | nil => rfl
    | cons y b => exact absurd ((h y).2 List.mem_cons_self) (by simp)
  | cons x a ih =>
    intro b ha hb h
    cases b with
    | nil => exact absurd ((h x).1 List.mem_cons_self) (by simp)
    | cons y b =>
      obtain ⟨ha1, ha2⟩ := List.pairwise_cons.1 ha
      obtain ⟨hb1, hb2⟩ := List.pairwise_cons.1 hb
      have e : x = y := by
        rcases List.mem_cons.1 ((h x).1 List.mem_cons_self) with h1 | h1
        · exact h1
        · rcases List.mem_cons.1 ((h y).2 List.mem_cons_self) with h2 | h2
          · exact h2.symm
          · have := ha1 y h2
            have := hb1 x h1
            omega
      subst e
      refine congrArg (x :: ·) (ih b ha2 hb2 (fun z => ⟨fun hz => ?_, fun hz => ?_⟩))
      · rcases List.mem_cons.1 ((h z).1 (List.mem_cons_of_mem _ hz)) with h1 | h1
        · have := ha1 z hz
          omega
        · exact h1
      · rcases List.mem_cons.1 ((h z).2 (List.mem_cons_of_mem _ hz)) with h1 | h1
        · have := hb1 z hz
          omega
        · exact h1
/-- A sorted row, each number once. -/
theorem compact_up (zs : List Int) (hs : zs.Pairwise (fun a b => a ≤ b)) : upL (Lib.compact zs) ∧ ∀ x, x ∈ Lib.compact zs ↔ x ∈ zs := by
  have hle : ∀ i j, i ≤ j → j < zs.length → zs.toArray[i]! ≤ zs.toArray[j]! := fun i j hij hj => by
    have hi : i < zs.length := by omega
    rw [getElem!_pos zs.toArray i (by simpa using hi), getElem!_pos zs.toArray j (by simpa using hj)]
    rcases Nat.lt_or_ge i j with h | h
    · exact List.pairwise_iff_getElem.1 hs i j hi hj h
    · obtain rfl : i = j := by omega
      exact Int.le_refl _
  have key : ∀ m, m ≤ zs.length → upL (Lib.compactUpTo zs.toArray m) ∧ ∀ x, x ∈ Lib.compactUpTo zs.toArray m ↔ ∃ j, j < m ∧ zs.toArray[j]! = x := by
    intro m
    induction m with
    | zero => exact fun _ => ⟨List.Pairwise.nil, fun x => ⟨fun h => by simp [Lib.compactUpTo] at h, fun ⟨j, hj, _⟩ => absurd hj (Nat.not_lt_zero _)⟩⟩
    | succ m ih =>
      intro hm
      obtain ⟨h1, h2⟩ := ih (by omega)
      rw [Lib.compactUpTo_succ]
      by_cases hk : Lib.keeps zs.toArray m = true
      · rw [if_pos hk]
        refine ⟨List.pairwise_append.2 ⟨h1, List.pairwise_singleton _ _, fun a ha b hb => ?_⟩, fun x => ?_⟩
        · obtain rfl := List.mem_singleton.1 hb
          obtain ⟨j, hj, rfl⟩ := (h2 a).1 ha
          have h3 := hle j (m - 1) (by omega) (by omega)
          have h4 := hle (m - 1) m (by omega) (by omega)
          simp only [Lib.keeps, decide_eq_true_eq] at hk
          rcases hk with hk | hk
          · omega
          · have : zs.toArray[m]! ≠ zs.toArray[m - 1]! := hk
            omega
        · rw [List.mem_append, List.mem_singleton, h2]
          constructor
          · rintro (⟨j, hj, h⟩ | h)
            · exact ⟨j, by omega, h⟩
            · exact ⟨m, by omega, h.symm⟩
          · rintro ⟨j, hj, h⟩
            rcases Nat.lt_or_ge j m with h3 | h3
            · exact .inl ⟨j, h3, h⟩
            · obtain rfl : j = m := by omega
              exact .inr h.symm
      · rw [if_neg hk, List.append_nil]
        refine ⟨h1, fun x => ?_⟩
        rw [h2]
        simp only [Lib.keeps, decide_eq_true_eq] at hk
        have hm0 : m ≠ 0 := fun h => hk (.inl h)
        have he : zs.toArray[m]! = zs.toArray[m - 1]! := by
          rcases Int.lt_trichotomy (zs.toArray[m]!) (zs.toArray[m - 1]!) with h | h | h
          · exact absurd (.inr (by omega)) hk
          · exact h
          · exact absurd (.inr (by omega)) hk
        constructor
        · rintro ⟨j, hj, h⟩
          exact ⟨j, by omega, h⟩
        · rintro ⟨j, hj, h⟩
          rcases Nat.lt_or_ge j m with h3 | h3
          · exact ⟨j, h3, h⟩
          · obtain rfl : j = m := by omega
            exact ⟨j - 1, by omega, by rw [← he, h]⟩
  obtain ⟨h1, h2⟩ := key zs.length (Nat.le_refl _)
  refine ⟨h1, fun x => ?_⟩
  rw [show Lib.compact zs = Lib.compactUpTo zs.toArray zs.length from rfl, h2, List.mem_iff_getElem]
  constructor
  · rintro ⟨j, hj, h⟩
    exact ⟨j, hj, by rw [getElem!_pos zs.toArray j (by simpa using hj)] at h; exact h⟩
  · rintro ⟨j, hj, h⟩
    exact ⟨j, hj, by rw [getElem!_pos zs.toArray j (by simpa using hj)]; exact h⟩
/-- A number put into an increasing list. -/
def putL : List Int → Int → List Int
  | [], n => [n]
  | x :: r, n => if x < n then x :: putL r n else if x = n then x :: r else n :: x :: r
theorem putL_mem (l : List Int) (n : Int) : ∀ x, x ∈ putL l n ↔ x = n ∨ x ∈ l := by
  induction l with
  | nil => intro x; simp [putL]
  | cons a r ih =>
    intro x
    unfold putL
    by_cases h : a < n
    · rw [if_pos h, List.mem_cons, ih, List.mem_cons]
      constructor
      · rintro (h1 | h1 | h1)
        · exact .inr (.inl h1)
        · exact .inl h1
        · exact .inr (.inr h1)
      · rintro (h1 | h1 | h1)
        · exact .inr (.inl h1)
        · exact .inl h1
        · exact .inr (.inr h1)
    · rw [if_neg h]
      by_cases h2 : a = n
      · rw [if_pos h2, List.mem_cons]
        constructor
        · exact fun h3 => .inr h3
        · rintro (h3 | h3)
          · exact .inl (by omega)
          · exact h3
      · rw [if_neg h2, List.mem_cons]
theorem putL_up (l : List Int) (n : Int) (h : upL l) : upL (putL l n) := by
  induction l with
  | nil => exact List.pairwise_singleton _ _
  | cons a r ih =>
    obtain ⟨h1, h2⟩ := List.pairwise_cons.1 h
    unfold putL
    by_cases h3 : a < n
    · rw [if_pos h3]
      refine List.pairwise_cons.2 ⟨fun y hy => ?_, ih h2⟩
      rcases (putL_mem r n y).1 hy with rfl | hy
      · exact h3
      · exact h1 y hy
    · rw [if_neg h3]
      by_cases h4 : a = n
      · rw [if_pos h4]
        exact h
      · rw [if_neg h4]
        refine List.pairwise_cons.2 ⟨fun y hy => ?_, h⟩
        rcases List.mem_cons.1 hy with rfl | hy
        · omega
        · have := h1 y hy
          omega
theorem putL_length (l : List Int) (n : Int) : (putL l n).length ≤ l.length + 1 := by
  induction l with
  | nil => simp [putL]
  | cons a r ih =>
    unfold putL
    split
    · simp only [List.length_cons]
      omega
    · split <;> simp
/-- The sums of the sets told by 1 to i that are greater than 0, increasing. -/
def sumsTo (l : List Int) : Nat → List Int
  | 0 => []
  | i + 1 => if 0 < wt l (i + 1) ∧ wt l (i + 1) ∉ sumsTo l i then putL (sumsTo l i) (wt l (i + 1)) else sumsTo l i
theorem sumsTo_up (l : List Int) : ∀ i, upL (sumsTo l i) := by
  intro i
  induction i with
  | zero => exact List.Pairwise.nil
  | succ i ih =>
    unfold sumsTo
    split
    · exact putL_up _ _ ih
    · exact ih
theorem sumsTo_length (l : List Int) : ∀ i, (sumsTo l i).length ≤ i := by
  intro i
  induction i with
  | zero => simp [sumsTo]
  | succ i ih =>
    unfold sumsTo
    have := putL_length (sumsTo l i) (wt l (i + 1))
    split <;> omega
theorem sumsTo_mem (l : List Int) (x : Int) : ∀ i, x ∈ sumsTo l i ↔ 0 < x ∧ ∃ m, m < i ∧ wt l (m + 1) = x := by
  intro i
  induction i with
  | zero => simp [sumsTo]
  | succ i ih =>
    unfold sumsTo
    by_cases h : 0 < wt l (i + 1) ∧ wt l (i + 1) ∉ sumsTo l i
    · rw [if_pos h, putL_mem, ih]
      constructor
      · rintro (rfl | ⟨h1, m, hm, h2⟩)
        · exact ⟨h.1, i, by omega, rfl⟩
        · exact ⟨h1, m, by omega, h2⟩
      · rintro ⟨h1, m, hm, h2⟩
        rcases Nat.lt_or_ge m i with h3 | h3
        · exact .inr ⟨h1, m, h3, h2⟩
        · obtain rfl : m = i := by omega
          exact .inl h2.symm
    · rw [if_neg h]
      constructor
      · intro h1
        obtain ⟨h2, m, hm, h3⟩ := ih.1 h1
        exact ⟨h2, m, by omega, h3⟩
      · rintro ⟨h1, m, hm, h2⟩
        rcases Nat.lt_or_ge m i with h3 | h3
        · exact ih.2 ⟨h1, m, h3, h2⟩
        · obtain rfl : m = i := by omega
          rw [h2] at h
          exact Classical.byContradiction fun h4 => h ⟨h1, h4⟩
/-- All sums greater than 0, increasing. -/
def sumsS (l : List Int) : List Int := sumsTo l (2 ^ l.length - 1)
theorem sumsS_impl {l : List Int} {B : Int} (hB : ∀ x ∈ l, 0 ≤ x ∧ x ≤ B) : Lib.compact (((List.range (2 ^ l.length)).map fun m => wt l m).mergeSort fun x y => decide (x ≤ y)) = 0 :: sumsS l := by
  have h1 : (((List.range (2 ^ l.length)).map fun m => wt l m).mergeSort fun x y => decide (x ≤ y)).Pairwise (fun a b => a ≤ b) := by
    have h := List.pairwise_mergeSort (le := fun x y : Int => decide (x ≤ y)) (fun a b c h1 h2 => by simp only [decide_eq_true_eq] at h1 h2 ⊢; omega) (fun a b => by simp only [Bool.or_eq_true, decide_eq_true_eq]; omega) ((List.range (2 ^ l.length)).map fun m => wt l m)
    exact h.imp (fun h => of_decide_eq_true h)
  obtain ⟨h2, h3⟩ := compact_up _ h1
  have hp := Nat.two_pow_pos l.length
  refine up_unique _ _ h2 (List.pairwise_cons.2 ⟨fun y hy => ((sumsTo_mem l y _).1 hy).1, sumsTo_up l _⟩) (fun x => ?_)
  rw [h3, List.mem_mergeSort, List.mem_map, List.mem_cons]
  constructor
  · rintro ⟨m, hm, rfl⟩
    have hm := List.mem_range.1 hm
    have h4 := (wt_le hB m).1
    cases m with
    | zero => exact .inl (wt_zero l)
    | succ m =>
      by_cases h5 : wt l (m + 1) = 0
      · exact .inl h5
      · exact .inr ((sumsTo_mem l _ _).2 ⟨by omega, m, by omega, rfl⟩)
  · rintro (rfl | h)
    · exact ⟨0, List.mem_range.2 (by omega), wt_zero l⟩
    · obtain ⟨h4, m, hm, h5⟩ := (sumsTo_mem l _ _).1 h
      exact ⟨m + 1, List.mem_range.2 (by omega), h5⟩
theorem sumsS_le {l : List Int} {B : Int} (hB : ∀ x ∈ l, 0 ≤ x ∧ x ≤ B) : ∀ x ∈ sumsS l, 0 < x ∧ x ≤ l.sum := by
  intro x hx
  obtain ⟨h1, m, _, rfl⟩ := (sumsTo_mem l x _).1 hx
  exact ⟨h1, (wt_le hB _).2⟩
theorem sumsS_length {l : List Int} (h9 : l.length ≤ 9) : (sumsS l).length ≤ 511 := by
  have h1 := sumsTo_length l (2 ^ l.length - 1)
  have h2 := pow9 h9
  unfold sumsS
  omega
/-- The sum of all is among them. -/
theorem sumsS_all {l : List Int} (h : 1 ≤ l.sum) : l.sum ∈ sumsS l := by
  have hp := Nat.two_pow_pos l.length
  have h1 := wt_compl l 0 hp
  rw [wt_zero] at h1
  have h2 : 2 ^ l.length - 1 ≠ 0 := by
    intro e
    cases l with
    | nil => simp at h
    | cons a r =>
      rw [List.length_cons, Nat.pow_succ] at e
      have := Nat.two_pow_pos r.length
      omega
  refine (sumsTo_mem l _ _).2 ⟨by omega, 2 ^ l.length - 1 - 1, by omega, ?_⟩
  rw [show 2 ^ l.length - 1 - 1 + 1 = 2 ^ l.length - 1 - 0 by omega, h1]
  omega
/-- The quotas at which other sets win. -/
def stepsC (l : List Int) : List Int := 1 :: ((sumsS l).take ((sumsS l).length - 1)).map (· + 1)
theorem stepsC_length {q : Int} {l : List Int} (h : goodC q l = true) : (stepsC l).length = (sumsS l).length ∧ 1 ≤ (sumsS l).length ∧ (sumsS l).length ≤ 511 := by
  obtain ⟨h1, h2, h3, h4, h5⟩ := goodC_iff.1 h
  have h6 := List.length_pos_of_mem (sumsS_all (l := l) (by omega))
  have h7 := sumsS_length h2
  refine ⟨?_, by omega, h7⟩
  unfold stepsC
  rw [List.length_cons, List.length_map, List.length_take]
  omega
end Go.Proofs.YtchcpjmdmohngaaW.PrintMore
