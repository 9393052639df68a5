/- Plain words of mine on swings, sizes of sets told by bits, orders, rows filled from the left. No condition. -/
import Derived.Test.YtameadmmgnfefaaSets
import Derived.Test.YtameadmmgnfefaaShare
namespace Go.Proofs.YtameadmmgnfefaaW.PrintMore
open Go.RowKit Go.Proofs.YtameadmmgnfefaaW.PrintWords Go.Proofs.YtameadmmgnfefaaW.PrintLast
set_option linter.unusedVariables false
theorem or_add : ∀ (k m : Nat), m.testBit k = false → m ||| 2 ^ k = m + 2 ^ k := by
  intro k
  induction k with
  | zero =>
    intro m h
    rw [Nat.testBit_zero, decide_eq_false_iff_not] at h
    have h1 : (m ||| 1) / 2 = m / 2 := by rw [Nat.or_div_two]; simp
    have h2 : (m ||| 1) % 2 = 1 := by
      have a1 := Nat.testBit_zero (m ||| 1)
      rw [Nat.testBit_or, Nat.testBit_zero, Nat.testBit_zero, decide_eq_true (show 1 % 2 = 1 by rfl), Bool.or_true] at a1
      exact of_decide_eq_true a1.symm
    rw [Nat.pow_zero]
    omega
  | succ k ih =>
    intro m h
    rw [Nat.testBit_succ] at h
    have h0 := ih _ h
    have e : 2 ^ (k + 1) = 2 * 2 ^ k := by rw [Nat.pow_succ, Nat.mul_comm]
    have e1 : 2 ^ (k + 1) / 2 = 2 ^ k := by omega
    have h1 : (m ||| 2 ^ (k + 1)) / 2 = m / 2 + 2 ^ k := by rw [Nat.or_div_two, e1, h0]
    have h2 : (m ||| 2 ^ (k + 1)) % 2 = m % 2 := by
      have a1 := Nat.testBit_zero (m ||| 2 ^ (k + 1))
      rw [Nat.testBit_or, Nat.testBit_zero, Nat.testBit_zero] at a1
      have : ¬ (2 ^ (k + 1) % 2 = 1) := by omega
      rw [decide_eq_false this, Bool.or_false] at a1
      have a2 := decide_eq_decide.1 a1
      omega
    omega
theorem add_bit_lt {m k n : Nat} (hm : m < 2 ^ n) (hk : k < n) (h : m.testBit k = false) : m + 2 ^ k < 2 ^ n := by
  rw [← or_add k m h]
  exact Nat.or_lt_two_pow hm (Nat.pow_lt_pow_right (by omega) hk)
/-- The members of a set told by bits. -/
def bitsL (m : Nat) : List Nat := (List.range 9).filter fun i => m.testBit i
def popc (m : Nat) : Nat := (bitsL m).length
theorem popc_le (m : Nat) : popc m ≤ 9 := by
  unfold popc bitsL
  have := List.length_filter_le (fun i => m.testBit i) (List.range 9)
  simpa using this
theorem filter_next (p : Nat → Bool) (i : Nat) : (List.range (i + 1)).filter p = (List.range i).filter p ++ if p i = true then [i] else [] := by
  rw [List.range_succ, List.filter_append]
  congr 1
  cases h : p i <;> simp [h]
theorem filter_len (p : Nat → Bool) (i : Nat) : ((List.range i).filter p).length ≤ i := by
  have := List.length_filter_le p (List.range i)
  simpa using this
/-- How many of the first i numbers. -/
def cntN (p : Nat → Bool) (i : Nat) : Int := (((List.range i).filter p).length : Int)
theorem cntN_zero (p : Nat → Bool) : cntN p 0 = 0 := rfl
theorem cntN_le (p : Nat → Bool) (i : Nat) : 0 ≤ cntN p i ∧ cntN p i ≤ i := by
  have := filter_len p i
  unfold cntN
  omega
theorem cntN_pos {p : Nat → Bool} {i : Nat} (h : p i = true) : cntN p (i + 1) = cntN p i + 1 := by
  unfold cntN
  rw [filter_next, h]
  simp
theorem cntN_neg {p : Nat → Bool} {i : Nat} (h : p i = false) : cntN p (i + 1) = cntN p i := by
  unfold cntN
  rw [filter_next, h]
  simp
/-- A sum over those of the first i numbers. -/
def sumN (p : Nat → Bool) (g : Nat → Int) : Nat → Int
  | 0 => 0
  | i + 1 => sumN p g i + if p i = true then g i else 0
theorem sumN_pos {p : Nat → Bool} {g : Nat → Int} {i : Nat} (h : p i = true) : sumN p g (i + 1) = sumN p g i + g i := by rw [sumN, if_pos h]
theorem sumN_neg {p : Nat → Bool} {g : Nat → Int} {i : Nat} (h : p i = false) : sumN p g (i + 1) = sumN p g i := by rw [sumN, if_neg (by rw [h]; decide)]; omega
theorem sumN_le {p : Nat → Bool} {g : Nat → Int} {B : Int} (hB : 0 ≤ B) (h : ∀ i, 0 ≤ g i ∧ g i ≤ B) : ∀ i, 0 ≤ sumN p g i ∧ sumN p g i ≤ i * B := by
  intro i
  induction i with
  | zero => simp [sumN]
  | succ i ih =>
    have := h i
    have e : ((i + 1 : Nat) : Int) * B = i * B + B := by rw [Int.natCast_add, Int.add_mul]; simp
    rw [e, sumN]
    split <;> omega
theorem sumN_list (p : Nat → Bool) (g : Nat → Int) (i : Nat) : sumN p g i = (((List.range i).filter p).map g).sum := by
  induction i with
  | zero => rfl
  | succ i ih =>
    rw [filter_next, sumN, ih, List.map_append, List.sum_append]
    split <;> simp
/-- Is the set m a swing of k? -/
def isSw (ws : List Bool) (k m : Nat) : Bool := !m.testBit k && !ws.getD m false && ws.getD (m + 2 ^ k) false
def swL (ws : List Bool) (k N : Nat) : List Int := ((List.range N).filter (isSw ws k)).map fun (m : Nat) => (m : Int)
/-- A row of n numbers, filled from the left: at k is c, behind it is nothing. -/
def fillN (F : Nat → Int) (n k : Nat) (c : Int) : List Int := (List.range n).map fun j => if j < k then F j else if j = k then c else 0
theorem fillN_length (F : Nat → Int) (n k : Nat) (c : Int) : (fillN F n k c).length = n := by simp [fillN]
theorem fillN_at {F : Nat → Int} {n k : Nat} {c : Int} (h : k < n) : rd (fillN F n k c) (k : Int) = c := by
  rw [rd_nat (by rw [fillN_length]; exact h)]
  simp [fillN]
theorem fillN_set {F : Nat → Int} {n k : Nat} {c d : Int} (h : k < n) : (fillN F n k c).set k d = fillN F n k d := by
  apply List.ext_getElem
  · simp [fillN]
  · intro i h1 h2
    rw [List.getElem_set]
    simp only [fillN, List.getElem_map, List.getElem_range]
    by_cases e : k = i
    · subst e; simp
    · rw [if_neg e]
      by_cases e2 : i < k
      · rw [if_pos e2, if_pos e2]
      · rw [if_neg e2, if_neg e2, if_neg (fun h => e h.symm), if_neg (fun h => e h.symm)]
theorem fillN_next (F : Nat → Int) (n k : Nat) : fillN F n k (F k) = fillN F n (k + 1) 0 := by
  apply List.ext_getElem
  · simp [fillN]
  · intro i h1 h2
    simp only [fillN, List.getElem_map, List.getElem_range]
    by_cases e : i = k
    · subst e; simp
    · by_cases e2 : i < k
      · rw [if_pos e2, if_pos (by omega)]
      · rw [if_neg e2, if_neg e, if_neg (by omega)]; simp
theorem fillN_zero (F : Nat → Int) (n : Nat) : fillN F n 0 0 = List.replicate n 0 := by
  apply List.ext_getElem
  · simp [fillN]
  · intro i h1 h2
    simp [fillN]
theorem fillN_end (F : Nat → Int) (n : Nat) : fillN F n n 0 = (List.range n).map F := by
  apply List.ext_getElem
  · simp [fillN]
  · intro i h1 h2
    have : i < n := by simpa [fillN] using h1
    simp [fillN, this]
/-- n factorial. -/
def facN : Nat → Nat
  | 0 => 1
  | n + 1 => (n + 1) * facN n
theorem facN_le {n : Nat} (h : n ≤ 9) : 1 ≤ facN n ∧ facN n ≤ 362880 := by
  have : ∀ n : Fin 10, 1 ≤ facN n.1 ∧ facN n.1 ≤ 362880 := by decide
  exact this ⟨n, by omega⟩
/-- The same for any whole number. -/
def facI (d : Int) : Int := (facN d.toNat : Int)
theorem facI_le {d : Int} (h : d ≤ 9) : 1 ≤ facI d ∧ facI d ≤ 362880 := by
  have := facN_le (n := d.toNat) (by omega)
  unfold facI
  omega
theorem facI_next {i : Int} (h : 1 ≤ i) : facI (i - 1) * i = facI i := by
  obtain ⟨j, hj⟩ : ∃ j : Nat, i = ((j + 1 : Nat) : Int) := ⟨(i - 1).toNat, by omega⟩
  subst hj
  have e : (((j + 1 : Nat) : Int) - 1).toNat = j := by omega
  unfold facI
  rw [e, Int.toNat_natCast, facN, ← Int.natCast_mul, Nat.mul_comm]
/-- How many swings each member has. -/
def swingsC (q : Int) (l : List Int) : List Int := (List.range l.length).map fun k => cntN (isSw (winsC q l) k) (2 ^ l.length)
theorem swingsC_le (q : Int) (l : List Int) (h9 : l.length ≤ 9) : ∀ x ∈ swingsC q l, 0 ≤ x ∧ x ≤ 9223372036854775807 := by
  intro x hx
  obtain ⟨k, _, rfl⟩ := List.mem_map.1 hx
  have h1 := cntN_le (isSw (winsC q l) k) (2 ^ l.length)
  have h2 := pow9 h9
  omega
theorem swL_length (ws : List Bool) (k N : Nat) : ((swL ws k N).length : Int) = cntN (isSw ws k) N := by simp [swL, cntN]
theorem swL_pos {ws : List Bool} {k i : Nat} (h : isSw ws k i = true) : swL ws k (i + 1) = swL ws k i ++ [(i : Int)] := by
  unfold swL
  rw [filter_next, h]
  simp
theorem swL_neg {ws : List Bool} {k i : Nat} (h : isSw ws k i = false) : swL ws k (i + 1) = swL ws k i := by
  unfold swL
  rw [filter_next, h]
  simp
theorem swL_le (ws : List Bool) (k N : Nat) : (swL ws k N).length ≤ N := by
  have := cntN_le (isSw ws k) N
  have h := swL_length ws k N
  omega
/-- Of how many orders each member is the pivot. -/
def pivF (n m : Nat) : Int := facI (popc m) * facI ((n : Int) - 1 - popc m)
theorem pivF_le {n : Nat} (h : n ≤ 9) (m : Nat) : 0 ≤ pivF n m ∧ pivF n m ≤ 362880 * 362880 := by
  have h1 := facI_le (d := (popc m : Int)) (by have := popc_le m; omega)
  have h2 := facI_le (d := (n : Int) - 1 - popc m) (by omega)
  exact mul_bd (by omega) h1.2 (by omega) h2.2
def pivotsC (q : Int) (l : List Int) : List Int := (List.range l.length).map fun k => sumN (isSw (winsC q l) k) (pivF l.length) (2 ^ l.length)
/-- A value told step by step for the first n members. -/
theorem map_next {α : Type} (F : Nat → α) (k : Nat) : (List.range (k + 1)).map F = (List.range k).map F ++ [F k] := by
  rw [List.range_succ, List.map_append]
  rfl
theorem rd_map {F : Nat → Int} {n p : Nat} (h : p < n) : rd ((List.range n).map F) (p : Int) = F p := by
  rw [rd_nat (by simpa using h)]
  simp
theorem map_set {F G : Nat → Int} {n p : Nat} {v : Int} (h1 : v = G p) (h2 : ∀ s, s ≠ p → F s = G s) : ((List.range n).map F).set p v = (List.range n).map G := by
  apply List.ext_getElem
  · simp
  · intro s h3 h4
    rw [List.getElem_set]
    simp only [List.getElem_map, List.getElem_range]
    by_cases e : p = s
    · subst e; rw [if_pos rfl, h1]
    · rw [if_neg e, h2 s (fun h => e h.symm)]
theorem set_mid {α : Type} (A r : List α) (v w : α) {i : Nat} (h : A.length = i) : (A ++ w :: r).set i v = A ++ v :: r := by
  rw [List.set_append_right _ _ (by omega), h, Nat.sub_self, List.set_cons_zero]
/-- How many members the largest losing set has. -/
def lossN (ws : List Bool) : Nat → Int
  | 0 => 0
  | i + 1 => if ws.getD i false = true then lossN ws i else if (popc i : Int) ≤ lossN ws i then lossN ws i else (popc i : Int)
/-- The winning sets of so many members. -/
def ofSize (ws : List Bool) (d : Int) (m : Nat) : Bool := ws.getD m false && decide ((popc m : Int) = d)
theorem popc_or : ∀ k, k < 9 → ∀ m, m < 512 → popc (m ||| 2 ^ k) = popc m + if m.testBit k = true then 0 else 1 := by decide +kernel
theorem popc_lt : ∀ n, n < 10 → ∀ m, m < 2 ^ n → popc m ≤ n := by decide +kernel
theorem popc_sw {n k m : Nat} (h9 : n ≤ 9) (hk : k < n) (hm : m < 2 ^ n) (h : m.testBit k = false) : popc m < n := by
  have h1 := popc_or k (by omega) m (Nat.lt_of_lt_of_le hm (pow9 h9).2)
  have h2 := popc_lt n (by omega) (m ||| 2 ^ k) (by rw [or_add k m h]; exact add_bit_lt hm hk h)
  rw [h, if_neg (by decide)] at h1
  omega
/-- How many swings have each number of members. -/
def sizeF (ws : List Bool) (k s m : Nat) : Bool := isSw ws k m && decide (popc m = s)
def sizesL (ws : List Bool) (n k i : Nat) : List Int := (List.range n).map fun s => cntN (sizeF ws k s) i
def sizesC (q : Int) (l : List Int) (k : Nat) : List Int := sizesL (winsC q l) l.length k (2 ^ l.length)
/-- The rest of an order, from the sum so far on. -/
def pivL (q : Int) (l : List Int) : List Int → Int → Int × Bool
  | [], _ => (0, false)
  | x :: r, sum => if q ≤ sum + l.getD x.toNat 0 then (x, true) else pivL q l r (sum + l.getD x.toNat 0)
def nodupI (s : List Int) (i : Nat) : Bool := (List.range i).all fun j => !(s.take j).contains (s.getD j 0)
theorem nodupI_next (s : List Int) (i : Nat) : nodupI s (i + 1) = (nodupI s i && !(s.take i).contains (s.getD i 0)) := by
  unfold nodupI
  rw [List.range_succ, List.all_append]
  simp
theorem maskL_bit (s : List Int) (k : Nat) : (maskL s).testBit k = s.any fun x => decide (x.toNat = k) := by
  have key : ∀ (s : List Int) (m : Nat), (s.foldl (fun m x => m ||| 2 ^ x.toNat) m).testBit k = (m.testBit k || s.any fun x => decide (x.toNat = k)) := by
    intro s
    induction s with
    | nil => intro m; simp
    | cons x r ih =>
      intro m
      rw [List.foldl_cons, ih, Nat.testBit_or, Nat.testBit_two_pow, List.any_cons, Bool.or_assoc]
  have := key s 0
  rw [Nat.zero_testBit, Bool.false_or] at this
  exact this
/-- An order's bits are as many as its members iff none is in it twice. -/
theorem popc_mask (s : List Int) (h : ∀ x ∈ s, 0 ≤ x ∧ x ≤ 8) : ∀ i, i ≤ s.length → popc (maskL (s.take i)) ≤ i ∧ (nodupI s i = true ↔ popc (maskL (s.take i)) = i) := by
  intro i
  induction i with
  | zero => intro _; exact ⟨by simp [maskL]; decide, by simp [maskL, nodupI]; decide⟩
  | succ i ih =>
    intro hi
    obtain ⟨h1, h2⟩ := ih (by omega)
    have hx := h s[i] (List.getElem_mem (by omega))
    have hm : maskL (s.take i) < 2 ^ 9 := maskL_lt (fun x hx => by have := h x (List.mem_of_mem_take hx); omega)
    have hb := maskL_bit (s.take i) (s[i]).toNat
    have hc : ((s.take i).any fun x => decide (x.toNat = (s[i]).toNat)) = (s.take i).contains s[i] := by
      rw [Bool.eq_iff_iff, List.any_eq_true, List.contains_iff_mem]
      constructor
      · rintro ⟨x, hx1, hx2⟩
        have h3 := h x (List.mem_of_mem_take hx1)
        have h4 := of_decide_eq_true hx2
        have : x = s[i] := by omega
        exact this ▸ hx1
      · intro hm
        exact ⟨_, hm, by simp⟩
    have hp := popc_or (s[i]).toNat (by omega) _ hm
    rw [hb, hc] at hp
    rw [maskL_take (by omega), nodupI_next, hp, getI_at (by omega)]
    cases hd : (s.take i).contains s[i] with
    | true => simp; omega
    | false => simp [h2]; omega
/-- Is s an order of n members? -/
def orderL (n : Nat) (s : List Int) : Bool := decide (s.length = n) && s.all (inB 0 ((n : Int) - 1)) && nodupI s s.length
theorem orderL_iff {n : Nat} {s : List Int} (h : orderL n s = true) : s.length = n ∧ ∀ x ∈ s, 0 ≤ x ∧ x ≤ (n : Int) - 1 := by
  simp only [orderL, Bool.and_eq_true, decide_eq_true_eq] at h
  exact ⟨h.1.1, fun x hx => inB_iff.1 (all_mem.1 h.1.2 x hx)⟩
/-- How many sets agree with a member. -/
def agreeF (ws : List Bool) (k m : Nat) : Bool := ws.getD m false == m.testBit k
end Go.Proofs.YtameadmmgnfefaaW.PrintMore
