/- Plain words of mine on swings, sizes of sets told by bits, orders, rows filled from the left. No condition. -/
import Derived.Test.YtbjgdbgaopgbjaaSets
import Derived.Test.YtbjgdbgaopgbjaaShare
namespace Go.Proofs.YtbjgdbgaopgbjaaW.PrintMore
open Go.RowKit Go.Proofs.YtbjgdbgaopgbjaaW.PrintWords Go.Proofs.YtbjgdbgaopgbjaaW.PrintLast
set_option linter.unusedVariables false
theorem or_add : ∀ (k m : Nat), m.testBit k = false → m ||| 2 ^ k = m + 2 ^ k := by
  intro k
  induction k with
  | zero =>
    intro m h
    rw [Nat.testBit_zero, decide_eq_false_iff_not] at h
    have h1 : (m ||| 1) / 2 = m / 2 := by rw [Nat.or_div_two]; simp
    have h2 : (m ||| 1) % 2 = 1 := by
      have a1 := Nat.testBit_zero (m ||| 1)
      rw [Nat.testBit_or, Nat.testBit_zero, Nat.testBit_zero, decide_eq_true (show 1 % 2 = 1 by rfl), Bool.or_true] at a1
      exact of_decide_eq_true a1.symm
    rw [Nat.pow_zero]
    omega
  | succ k ih =>
    intro m h
    rw [Nat.testBit_succ] at h
    have h0 := ih _ h
    have e : 2 ^ (k + 1) = 2 * 2 ^ k := by rw [Nat.pow_succ, Nat.mul_comm]
    have e1 : 2 ^ (k + 1) / 2 = 2 ^ k := by omega
    have h1 : (m ||| 2 ^ (k + 1)) / 2 = m / 2 + 2 ^ k := by rw [Nat.or_div_two, e1, h0]
    have h2 : (m ||| 2 ^ (k + 1)) % 2 = m % 2 := by
      have a1 := Nat.testBit_zero (m ||| 2 ^ (k + 1))
      rw [Nat.testBit_or, Nat.testBit_zero, Nat.testBit_zero] at a1
      have : ¬ (2 ^ (k + 1) % 2 = 1) := by omega
      rw [decide_eq_false this, Bool.or_false] at a1
      have a2 := decide_eq_decide.1 a1
      omega
    omega
theorem add_bit_lt {m k n : Nat} (hm : m < 2 ^ n) (hk : k < n) (h : m.testBit k = false) : m + 2 ^ k < 2 ^ n := by
  rw [← or_add k m h]
  exact Nat.or_lt_two_pow hm (Nat.pow_lt_pow_right (by omega) hk)
/-- The members of a set told by bits. -/
def bitsL (m : Nat) : List Nat := (List.range 9).filter fun i => m.testBit i
def popc (m : Nat) : Nat := (bitsL m).length
theorem popc_le (m : Nat) : popc m ≤ 9 := by
  unfold popc bitsL
  have := List.length_filter_le (fun i => m.testBit i) (List.range 9)
  simpa using this
theorem filter_next (p : Nat → Bool) (i : Nat) : (List.range (i + 1)).filter p = (List.range i).filter p ++ if p i = true then [i] else [] := by
  rw [List.range_succ, List.filter_append]
  congr 1
  cases h : p i <;> simp [h]
theorem filter_len (p : Nat → Bool) (i : Nat) : ((List.range i).filter p).length ≤ i := by
  have := List.length_filter_le p (List.range i)
  simpa using this
/-- How many of the first i numbers. -/
def cntN (p : Nat → Bool) (i : Nat) : Int := (((List.range i).filter p).length : Int)
theorem cntN_zero (p : Nat → Bool) : cntN p 0 = 0 := rfl
theorem cntN_le (p : Nat → Bool) (i : Nat) : 0 ≤ cntN p i ∧ cntN p i ≤ i := by
  have := filter_len p i
  unfold cntN
  omega
theorem cntN_pos {p : Nat → Bool} {i : Nat} (h : p i = true) : cntN p (i + 1) = cntN p i + 1 := by
  unfold cntN
  rw [filter_next, h]
  simp
theorem cntN_neg {p : Nat → Bool} {i : Nat} (h : p i = false) : cntN p (i + 1) = cntN p i := by
  unfold cntN
  rw [filter_next, h]
  simp
/-- A sum over those of the first i numbers. -/
def sumN (p : Nat → Bool) (g : Nat → Int) : Nat → Int
  | 0 => 0
  | i + 1 => sumN p g i + if p i = true then g i else 0
theorem sumN_pos {p : Nat → Bool} {g : Nat → Int} {i : Nat} (h : p i = true) : sumN p g (i + 1) = sumN p g i + g i := by rw [sumN, if_pos h]
theorem sumN_neg {p : Nat → Bool} {g : Nat → Int} {i : Nat} (h : p i = false) : sumN p g (i + 1) = sumN p g i := by rw [sumN, if_neg (by rw [h]; decide)]; omega
theorem sumN_le {p : Nat → Bool} {g : Nat → Int} {B : Int} (hB : 0 ≤ B) (h : ∀ i, 0 ≤ g i ∧ g i ≤ B) : ∀ i, 0 ≤ sumN p g i ∧ sumN p g i ≤ i * B := by
  intro i
  induction i with
  | zero => simp [sumN]
  | succ i ih =>
    have := h i
    have e : ((i + 1 : Nat) : Int) * B = i * B + B := by rw [Int.natCast_add, Int.add_mul]; simp
    rw [e, sumN]
    split <;> omega
theorem sumN_list (p : Nat → Bool) (g : Nat → Int) (i : Nat) : sumN p g i = (((List.range i).filter p).map g).sum := by
  induction i with
  | zero => rfl
  | succ i ih =>
    rw [filter_next, sumN, ih, List.map_append, List.sum_append]
    split <;> simp
/-- Is the set m a swing of k? -/
def isSw (ws : List Bool) (k m : Nat) : Bool := !m.testBit k && !ws.getD m false && ws.getD (m + 2 ^ k) false
def swL (ws : List Bool) (k N : Nat) : List Int := ((List.range N).filter (isSw ws k)).map fun (m : Nat) => (m : Int)
/-- A row of n numbers, filled from the left: at k is c, behind it is nothing. -/
def fillN (F : Nat → Int) (n k : Nat) (c : Int) : List Int := (List.range n).map fun j => if j < k then F j else if j = k then c else 0
theorem fillN_length (F : Nat → Int) (n k : Nat) (c : Int) : (fillN F n k c).length = n := by simp [fillN]
theorem fillN_at {F : Nat → Int} {n k : Nat} {c : Int} (h : k < n) : rd (fillN F n k c) (k : Int) = c := by
  rw [rd_nat (by rw [fillN_length]; exact h)]
  simp [fillN]
theorem fillN_set {F : Nat → Int} {n k : Nat} {c d : Int} (h : k < n) : (fillN F n k c).set k d = fillN F n k d := by
  apply List.ext_getElem
  · simp [fillN]
  · intro i h1 h2
    rw [List.getElem_set]
    simp only [fillN, List.getElem_map, List.getElem_range]
    by_cases e : k = i
    · subst e; simp
    · rw [if_neg e]
      by_cases e2 : i < k
      · rw [if_pos e2, if_pos e2]
      · rw [if_neg e2, if_neg e2, if_neg (fun h => e h.symm), if_neg (fun h => e h.symm)]
theorem fillN_next (F : Nat → Int) (n k : Nat) : fillN F n k (F k) = fillN F n (k + 1) 0 := by
  apply List.ext_getElem
  · simp [fillN]
  · intro i h1 h2
    simp only [fillN, List.getElem_map, List.getElem_range]
    by_cases e : i = k
    · subst e; simp
    · by_cases e2 : i < k
      · rw [if_pos e2, if_pos (by omega)]
      · rw [if_neg e2, if_neg e, if_neg (by omega)]; simp
theorem fillN_zero (F : Nat → Int) (n : Nat) : fillN F n 0 0 = List.replicate n 0 := by
  apply List.ext_getElem
  · simp [fillN]
  · intro i h1 h2
    simp [fillN]
theorem fillN_end (F : Nat → Int) (n : Nat) : fillN F n n 0 = (List.range n).map F := by
  apply List.ext_getElem
  · simp [fillN]
  · intro i h1 h2
    have : i < n := by simpa [fillN] using h1
    simp [fillN, this]
/-- n factorial. -/
def facN : Nat → Nat
  | 0 => 1
  | n + 1 => (n + 1) * facN n
theorem facN_le {n : Nat} (h : n ≤ 9) : 1 ≤ facN n ∧ facN n ≤ 362880 := by
  have : ∀ n : Fin 10, 1 ≤ facN n.1 ∧ facN n.1 ≤ 362880 := by decide
  exact this ⟨n, by omega⟩
/-- The same for any whole number. -/
def facI (d : Int) : Int := (facN d.toNat : Int)
theorem facI_le {d : Int} (h : d ≤ 9) : 1 ≤ facI d ∧ facI d ≤ 362880 := by
  have := facN_le (n := d.toNat) (by omega)
  unfold facI
  omega
theorem facI_next {i : Int} (h : 1 ≤ i) : facI (i - 1) * i = facI i := by
  obtain ⟨j, hj⟩ : ∃ j : Nat, i = ((j + 1 : Nat) : Int) := ⟨(i - 1).toNat, by omega⟩
  subst hj
  have e : (((j + 1 : Nat) : Int) - 1).toNat = j := by omega
  unfold facI
  rw [e, Int.toNat_natCast, facN, ← Int.natCast_mul, Nat.mul_comm]
/-- How many swings each member has. -/
def swingsC (q : Int) (l : List Int) : List Int := (List.range l.length).map fun k => cntN (isSw (winsC q l) k) (2 ^ l.length)
theorem swingsC_le (q : Int) (l : List Int) (h9 : l.length ≤ 9) : ∀ x ∈ swingsC q l, 0 ≤ x ∧ x ≤ 9223372036854775807 := by
  intro x hx
  obtain ⟨k, _, rfl⟩ := List.mem_map.1 hx
  have h1 := cntN_le (isSw (winsC q l) k) (2 ^ l.length)
  have h2 := pow9 h9
  omega
theorem swL_length (ws : List Bool) (k N : Nat) : ((swL ws k N).length : Int) = cntN (isSw ws k) N := by simp [swL, cntN]
theorem swL_pos {ws : List Bool} {k i : Nat} (h : isSw ws k i = true) : swL ws k (i + 1) = swL ws k i ++ [(i : Int)] := by
  unfold swL
  rw [filter_next, h]
  simp
theorem swL_neg {ws : List Bool} {k i : Nat} (h : isSw ws k i = false) : swL ws k (i + 1) = swL ws k i := by
  unfold swL
  rw [filter_next, h]
  simp
theorem swL_le (ws : List Bool) (k N : Nat) : (swL ws k N).length ≤ N := by
  have := cntN_le (isSw ws k) N
  have h := swL_length ws k N
  omega
/-- Of how many orders each member is the pivot. -/
def pivF (n m : Nat) : Int := facI (popc m) * facI ((n : Int) - 1 - popc m)
theorem pivF_le {n : Nat} (h : n ≤ 9) (m : Nat) : 0 ≤ pivF n m ∧ pivF n m ≤ 362880 * 362880 := by
  have h1 := facI_le (d := (popc m : Int)) (by have := popc_le m; omega)
  have h2 := facI_le (d := (n : Int) - 1 - popc m) (by omega)
  exact mul_bd (by omega) h1.2 (by omega) h2.2
def pivotsC (q : Int) (l : List Int) : List Int := (List.range l.length).map fun k => sumN (isSw (winsC q l) k) (pivF l.length) (2 ^ l.length)
/-- A value told step by step for the first n members. -/
theorem map_next {α : Type} (F : Nat → α) (k : Nat) : (List.range (k + 1)).map F = (List.range k).map F ++ [F k] := by
  rw [List.range_succ, List.map_append]
  rfl
theorem rd_map {F : Nat → Int} {n p : Nat} (h : p < n) : rd ((List.range n).map F) (p : Int) = F p := by
  rw [rd_nat (by simpa using h)]
  simp
theorem map_set {F G : Nat → Int} {n p : Nat} {v : Int} (h1 : v = G p) (h2 : ∀ s, s ≠ p → F s = G s) : ((List.range n).map F).set p v = (List.range n).map G := by
  apply List.ext_getElem
  · simp
  · intro s h3 h4
    rw [List.getElem_set]
    simp only [List.getElem_map, List.getElem_range]
    by_cases e : p = s
    · subst e; rw [if_pos rfl, h1]
    · rw [if_neg e, h2 s (fun h => e h.symm)]
theorem set_mid {α : Type} (A r : List α) (v w : α) {i : Nat} (h : A.length = i) : (A ++ w :: r).set i v = A ++ v :: r := by
  rw [List.set_append_right _ _ (by omega), h, Nat.sub_self, List.set_cons_zero]
/-- How many members the largest losing set has. -/
def lossN (ws : List Bool) : Nat → Int
  | 0 => 0
  | i + 1 => if ws.getD i false = true then lossN ws i else if (popc i : Int) ≤ lossN ws i then lossN ws i else (popc i : Int)
/-- The winning sets of so many members. -/
def ofSize (ws : List Bool) (d : Int) (m : Nat) : Bool := ws.getD m false && decide ((popc m : Int) = d)
theorem popc_or : ∀ k, k < 9 → ∀ m, m < 512 → popc (m ||| 2 ^ k) = popc m + if m.testBit k = true then 0 else 1 := by decide +kernel
theorem popc_lt : ∀ n, n < 10 → ∀ m, m < 2 ^ n → popc m ≤ n := by decide +kernel
theorem popc_sw {n k m : Nat} (h9 : n ≤ 9) (hk : k < n) (hm : m < 2 ^ n) (h : m.testBit k = false) : popc m < n := by
  have h1 := popc_or k (by omega) m (Nat.lt_of_lt_of_le hm (pow9 h9).2)
  have h2 := popc_lt n (by omega) (m ||| 2 ^ k) (by rw [or_add k m h]; exact add_bit_lt hm hk h)
  rw [h, if_neg (by decide)] at h1
  omega
/-- How many swings have each number of members. -/
def sizeF (ws : List Bool) (k s m : Nat) : Bool := isSw ws k m && decide (popc m = s)
def sizesL (ws : List Bool) (n k i : Nat) : List Int := (List.range n).map fun s => cntN (sizeF ws k s) i
def sizesC (q : Int) (l : List Int) (k : Nat) : List Int := sizesL (winsC q l) l.length k (2 ^ l.length)
/-- The rest of an order, from the sum so far on. -/
def pivL (q : Int) (l : List Int) : List Int → Int → Int × Bool
  | [], _ => (0, false)
  | x :: r, sum => if q ≤ sum + l.getD x.toNat 0 then (x, true) else pivL q l r (sum + l.getD x.toNat 0)
def nodupI (s : List Int) (i : Nat) : Bool := (List.range i).all fun j => !(s.take j).contains (s.getD j 0)
theorem nodupI_next (s : List Int) (i : Nat) : nodupI s (i + 1) = (nodupI s i && !(s.take i).contains (s.getD i 0)) := by
  unfold nodupI
  rw [List.range_succ, List.all_append]
  simp
theorem maskL_bit (s : List Int) (k : Nat) : (maskL s).testBit k = s.any fun x => decide (x.toNat = k) := by
  have key : ∀ (s : List Int) (m : Nat), (s.foldl (fun m x => m ||| 2 ^ x.toNat) m).testBit k = (m.testBit k || s.any fun x => decide (x.toNat = k)) := by
    intro s
    induction s with
    | nil => intro m; simp
    | cons x r ih =>
      intro m
      rw [List.foldl_cons, ih, Nat.testBit_or, Nat.testBit_two_pow, List.any_cons, Bool.or_assoc]
  have := key s 0
  rw [Nat.zero_testBit, Bool.false_or] at this
  exact this
/-- An order's bits are as many as its members iff none is in it twice. -/
theorem popc_mask (s : List Int) (h : ∀ x ∈ s, 0 ≤ x ∧ x ≤ 8) : ∀ i, i ≤ s.length → popc (maskL (s.take i)) ≤ i ∧ (nodupI s i = true ↔ popc (maskL (s.take i)) = i) := by
  intro i
  induction i with
  | zero => intro _; exact ⟨by simp [maskL]; decide, by simp [maskL, nodupI]; decide⟩
  | succ i ih =>
    intro hi
    obtain ⟨h1, h2⟩ := ih (by omega)
    have hx := h s[i] (List.getElem_mem (by omega))
    have hm : maskL (s.take i) < 2 ^ 9 := maskL_lt (fun x hx => by have := h x (List.mem_of_mem_take hx); omega)
    have hb := maskL_bit (s.take i) (s[i]).toNat
    have hc : ((s.take i).any fun x => decide (x.toNat = (s[i]).toNat)) = (s.take i).contains s[i] := by
      rw [Bool.eq_iff_iff, List.any_eq_true, List.contains_iff_mem]
      constructor
      · rintro ⟨x, hx1, hx2⟩
        have h3 := h x (List.mem_of_mem_take hx1)
        have h4 := of_decide_eq_true hx2
        have : x = s[i] := by omega
        exact this ▸ hx1
      · intro hm
        exact ⟨_, hm, by simp⟩
    have hp := popc_or (s[i]).toNat (by omega) _ hm
    rw [hb, hc] at hp
    rw [maskL_take (by omega), nodupI_next, hp, getI_at (by omega)]
    cases hd : (s.take i).contains s[i] with
    | true => simp; omega
    | false => simp [h2]; omega
/-- Is s an order of n members? -/
def orderL (n : Nat) (s : List Int) : Bool := decide (s.length = n) && s.all (inB 0 ((n : Int) - 1)) && nodupI s s.length
theorem orderL_iff {n : Nat} {s : List Int} (h : orderL n s = true) : s.length = n ∧ ∀ x ∈ s, 0 ≤ x ∧ x ≤ (n : Int) - 1 := by
  simp only [orderL, Bool.and_eq_true, decide_eq_true_eq] at h
  exact ⟨h.1.1, fun x hx => inB_iff.1 (all_mem.1 h.1.2 x hx)⟩
/-- How many sets agree with a member. -/
def agreeF (ws : List Bool) (k m : Nat) : Bool := ws.getD m false == m.testBit k
theorem sum_one {l : List Int} (h : ∀ x ∈ l, 0 ≤ x) {x : Int} (hx : x ∈ l) (h1 : 1 ≤ x) : 1 ≤ l.sum := by
  induction l with
  | nil => cases hx
  | cons a r ih =>
    have ha := h a List.mem_cons_self
    have hr : 0 ≤ r.sum := by
      clear ih hx ha
      have h' : ∀ y ∈ r, 0 ≤ y := fun y hy => h y (List.mem_cons_of_mem _ hy)
      clear h
      induction r with
      | nil => simp
      | cons b s ih =>
        have := h' b List.mem_cons_self
        have := ih (fun y hy => h' y (List.mem_cons_of_mem _ hy))
        rw [List.sum_cons]
        omega
    rw [List.sum_cons]
    rcases List.mem_cons.1 hx with e | hx
    · omega
    · have := ih (fun y hy => h y (List.mem_cons_of_mem _ hy)) hx
      omega
theorem cntN_one {p : Nat → Bool} {N m : Nat} (hm : m < N) (h : p m = true) : 1 ≤ cntN p N := by
  unfold cntN
  have : m ∈ (List.range N).filter p := List.mem_filter.2 ⟨by simpa using hm, h⟩
  have := List.length_pos_of_mem this
  omega
theorem countL_one {ws : List Bool} {i : Nat} (h : i < ws.length) (hb : ws[i] = true) : 1 ≤ countL ws := by
  unfold countL
  have : true ∈ ws.filter id := List.mem_filter.2 ⟨hb ▸ List.getElem_mem h, rfl⟩
  have := List.length_pos_of_mem this
  omega
theorem countL_lt {ws : List Bool} {i : Nat} (h : i < ws.length) (hb : ws[i] = false) : countL ws + 1 ≤ ws.length := by
  unfold countL
  have h1 : (ws.filter id).length ≠ ws.length := by
    intro e
    have := List.length_filter_eq_length_iff.1 e (ws[i]) (List.getElem_mem h)
    rw [hb] at this
    cases this
  have := List.length_filter_le id ws
  omega
/-- The whole weight. -/
theorem wt_full (l : List Int) : wt l (2 ^ l.length - 1) = l.sum := by
  have h := wt_compl l 0 (Nat.two_pow_pos _)
  rw [wt_zero, Nat.sub_zero] at h
  rw [h, Int.sub_zero]
theorem wins_full {q : Int} {l : List Int} (h : goodC q l = true) : (winsC q l)[2 ^ l.length - 1]'(by rw [winsC_length]; have := Nat.two_pow_pos l.length; omega) = true := by
  obtain ⟨h1, h2, h3, h4, h5⟩ := goodC_iff.1 h
  rw [winsC_at, wt_full]
  exact decide_eq_true h5
theorem wins_none {q : Int} {l : List Int} (h : goodC q l = true) : (winsC q l)[0]'(by rw [winsC_length]; exact Nat.two_pow_pos _) = false := by
  obtain ⟨h1, h2, h3, h4, h5⟩ := goodC_iff.1 h
  rw [winsC_at, wt_zero]
  exact decide_eq_false (by omega)
theorem wins_count {q : Int} {l : List Int} (h : goodC q l = true) : 1 ≤ countL (winsC q l) ∧ countL (winsC q l) + 1 ≤ (winsC q l).length := ⟨countL_one _ (wins_full h), countL_lt _ (wins_none h)⟩
/-- From a set that loses to one that wins there is a step. -/
theorem swing_step (ws : List Bool) (n : Nat) (h0 : ws.getD 0 false = false) (h1 : ws.getD (2 ^ n - 1) false = true) : ∃ k, k < n ∧ isSw ws k (2 ^ k - 1) = true := by
  induction n with
  | zero => simp at h1; simp [h1] at h0
  | succ n ih =>
    cases hb : ws.getD (2 ^ n - 1) false with
    | true =>
      obtain ⟨k, hk, hs⟩ := ih hb
      exact ⟨k, by omega, hs⟩
    | false =>
      refine ⟨n, by omega, ?_⟩
      have hp := Nat.two_pow_pos n
      have e : 2 ^ n - 1 + 2 ^ n = 2 ^ (n + 1) - 1 := by rw [Nat.pow_succ]; omega
      rw [isSw, hb, e, h1, Nat.testBit_two_pow_sub_one]
      simp
theorem swings_sum {q : Int} {l : List Int} (h : goodC q l = true) : 1 ≤ (swingsC q l).sum := by
  have h9 := (goodC_iff.1 h).2.1
  have hw := winsC_length q l
  have hp := Nat.two_pow_pos l.length
  obtain ⟨k, hk, hs⟩ := swing_step (winsC q l) l.length (by rw [getD_at (by omega)]; exact wins_none h) (by rw [getD_at (by omega)]; exact wins_full h)
  have hle : 2 ^ k ≤ 2 ^ l.length := Nat.pow_le_pow_right (by omega) (by omega)
  have hk2 := Nat.two_pow_pos k
  exact sum_one (fun x hx => (swingsC_le q l h9 x hx).1) (List.mem_map.2 ⟨k, by simpa using hk, rfl⟩) (cntN_one (by omega) hs)
theorem swingsC_512 (q : Int) (l : List Int) (h9 : l.length ≤ 9) : ∀ x ∈ swingsC q l, 0 ≤ x ∧ x ≤ 512 := by
  intro x hx
  obtain ⟨k, _, rfl⟩ := List.mem_map.1 hx
  have h1 := cntN_le (isSw (winsC q l) k) (2 ^ l.length)
  have h2 := pow9 h9
  omega
theorem pivotsC_le (q : Int) (l : List Int) (h9 : l.length ≤ 9) : ∀ x ∈ pivotsC q l, 0 ≤ x ∧ x ≤ 67421872128000 := by
  intro x hx
  obtain ⟨k, _, rfl⟩ := List.mem_map.1 hx
  have h1 := sumN_le (p := isSw (winsC q l) k) (g := pivF l.length) (B := 362880 * 362880) (by decide) (pivF_le h9) (2 ^ l.length)
  have h2 := pow9 h9
  have h3 : ((2 ^ l.length : Nat) : Int) * (362880 * 362880) ≤ 512 * (362880 * 362880) := Int.mul_le_mul_of_nonneg_right (by omega) (by decide)
  omega
theorem shareO_nat (a d : Nat) : shareO (a : Int) (d : Int) = (((a / Nat.gcd a d : Nat) : Int), ((d / Nat.gcd a d : Nat) : Int)) := rfl
theorem share_scale {k a d : Int} (hk : 1 ≤ k) (ha : 0 ≤ a) (hd : 0 ≤ d) : shareO (k * a) (k * d) = shareO a d := by
  obtain ⟨K, rfl⟩ := Int.eq_ofNat_of_zero_le (show 0 ≤ k by omega)
  obtain ⟨A, rfl⟩ := Int.eq_ofNat_of_zero_le ha
  obtain ⟨D, rfl⟩ := Int.eq_ofNat_of_zero_le hd
  rw [← Int.natCast_mul, ← Int.natCast_mul, shareO_nat, shareO_nat, Nat.gcd_mul_left, Nat.mul_div_mul_left _ _ (by omega), Nat.mul_div_mul_left _ _ (by omega)]
theorem share_val {a d : Int} (ha : 0 ≤ a) (hd : 1 ≤ d) : ∃ g : Int, 1 ≤ g ∧ a = g * (shareO a d).1 ∧ d = g * (shareO a d).2 ∧ 0 ≤ (shareO a d).1 ∧ 1 ≤ (shareO a d).2 := by
  obtain ⟨A, rfl⟩ := Int.eq_ofNat_of_zero_le ha
  obtain ⟨D, rfl⟩ := Int.eq_ofNat_of_zero_le (show 0 ≤ d by omega)
  have hg : 0 < Nat.gcd A D := Nat.gcd_pos_of_pos_right _ (by omega)
  have h1 := Nat.mul_div_cancel' (Nat.gcd_dvd_left A D)
  have h2 := Nat.mul_div_cancel' (Nat.gcd_dvd_right A D)
  have h3 : 0 < D / Nat.gcd A D := Nat.div_pos (Nat.le_of_dvd (by omega) (Nat.gcd_dvd_right A D)) hg
  refine ⟨(Nat.gcd A D : Int), by omega, ?_, ?_, ?_, ?_⟩
  · rw [shareO_nat, ← Int.natCast_mul, h1]
  · rw [shareO_nat, ← Int.natCast_mul, h2]
  · rw [shareO_nat]; exact Int.natCast_nonneg _
  · rw [shareO_nat]; show (1 : Int) ≤ ((D / Nat.gcd A D : Nat) : Int); omega
theorem shareO_bd {n d : Int} (hn : 0 ≤ n) (hd : 1 ≤ d) : 0 ≤ (shareO n d).1 ∧ (shareO n d).1 ≤ n ∧ 0 ≤ (shareO n d).2 ∧ (shareO n d).2 ≤ d := by
  unfold shareO
  have h1 := Nat.div_le_self n.toNat (Nat.gcd n.toNat d.toNat)
  have h2 := Nat.div_le_self d.toNat (Nat.gcd n.toNat d.toNat)
  refine ⟨Int.natCast_nonneg _, ?_, Int.natCast_nonneg _, ?_⟩
  · exact Int.le_trans (Int.ofNat_le.2 h1) (by omega)
  · exact Int.le_trans (Int.ofNat_le.2 h2) (by omega)
theorem pos_right {m y : Int} (hm : 1 ≤ m) (h : 0 < m * y) : 0 < y := by
  by_cases hy : 0 < y
  · exact hy
  · have := Int.mul_nonneg (show 0 ≤ m by omega) (show 0 ≤ -y by omega)
    rw [Int.mul_neg] at this
    omega
theorem sgn_scale {k m x y : Int} (hk : 1 ≤ k) (hm : 1 ≤ m) (h : k * x = m * y) : sgn x = sgn y := by
  have hx : x = 0 ∨ 0 < x ∨ x < 0 := by omega
  rcases hx with rfl | hx | hx
  · rw [Int.mul_zero] at h
    have : y = 0 := by
      rcases Int.mul_eq_zero.1 h.symm with e | e
      · omega
      · exact e
    rw [this]
  · have h1 : 0 < m * y := by rw [← h]; exact Int.mul_pos (by omega) hx
    have h2 : 0 < y := pos_right hm h1
    unfold sgn
    rw [if_pos hx, if_pos h2]
  · have h1 : 0 < m * (-y) := by
      have : 0 < k * (-x) := Int.mul_pos (by omega) (by omega)
      rw [Int.mul_neg, h] at this
      rwa [Int.mul_neg]
    have h2 : 0 < -y := pos_right hm h1
    unfold sgn
    rw [if_neg (by omega), if_pos hx, if_neg (by omega), if_pos (by omega)]
theorem share_cmp {a b d : Int} (ha : 0 ≤ a) (hb : 0 ≤ b) (hd : 1 ≤ d) : sgn ((shareO a d).1 * (shareO b d).2 - (shareO b d).1 * (shareO a d).2) = sgn (a - b) := by
  obtain ⟨g, hg, h1, h2, _, _⟩ := share_val ha hd
  obtain ⟨g', hg', h3, h4, _, _⟩ := share_val hb hd
  generalize (shareO a d).1 = a1 at *
  generalize (shareO a d).2 = d1 at *
  generalize (shareO b d).1 = b1 at *
  generalize (shareO b d).2 = d2 at *
  have hk : 1 ≤ g * g' := Int.mul_pos (by omega) (by omega)
  refine sgn_scale (k := g * g') (m := d) hk hd ?_
  have e1 : g * g' * (a1 * d2 - b1 * d1) = (g * a1) * (g' * d2) - (g' * b1) * (g * d1) := by grind
  rw [e1, ← h1, ← h2, ← h3, ← h4]
  grind
def absI (a : Int) : Int := if a > -a then a else -a
theorem absI_nonneg (a : Int) : 0 ≤ absI a := by unfold absI; split <;> omega
theorem absI_mul {k a : Int} (hk : 1 ≤ k) : absI (k * a) = k * absI a := by
  unfold absI
  by_cases h : a > 0
  · have : 0 < k * a := Int.mul_pos (by omega) h
    rw [if_pos (by omega), if_pos (by omega)]
  · have h1 : 0 ≤ k * (-a) := Int.mul_nonneg (by omega) (by omega)
    rw [Int.mul_neg] at h1
    by_cases e : k * a > -(k * a)
    · omega
    · rw [if_neg e, if_neg (by omega), Int.mul_neg]
/-- How far two fractions are apart. -/
theorem off_eq {p N w S : Int} (hp : 0 ≤ p) (hN : 1 ≤ N) (hw : 0 ≤ w) (hS : 1 ≤ S) : shareO (absI ((shareO p N).1 * (shareO w S).2 - (shareO w S).1 * (shareO p N).2)) ((shareO p N).2 * (shareO w S).2) = shareO (absI (p * S - w * N)) (N * S) := by
  obtain ⟨g, hg, h1, h2, _, h5⟩ := share_val hp hN
  obtain ⟨g', hg', h3, h4, _, h6⟩ := share_val hw hS
  generalize (shareO p N).1 = a1 at *
  generalize (shareO p N).2 = d1 at *
  generalize (shareO w S).1 = b1 at *
  generalize (shareO w S).2 = d2 at *
  have hk : 1 ≤ g * g' := Int.mul_pos (by omega) (by omega)
  have e1 : p * S - w * N = g * g' * (a1 * d2 - b1 * d1) := by rw [h1, h2, h3, h4]; grind
  have e2 : N * S = g * g' * (d1 * d2) := by rw [h2, h4]; grind
  have hd : 0 ≤ d1 * d2 := Int.mul_nonneg (by omega) (by omega)
  rw [e1, e2, absI_mul hk, share_scale hk (absI_nonneg _) hd]
/-- All orders. -/
theorem orders_all : ∀ n, n < 10 → ∀ k, k < n → sumN (fun m => !m.testBit k) (pivF n) (2 ^ n) = facI (n : Int) := by decide +kernel
theorem sumN_mono {p p' : Nat → Bool} {g : Nat → Int} (hp : ∀ m, p m = true → p' m = true) (hg : ∀ m, 0 ≤ g m) : ∀ i, sumN p g i ≤ sumN p' g i := by
  intro i
  induction i with
  | zero => simp [sumN]
  | succ i ih =>
    have := hg i
    rw [sumN, sumN]
    by_cases h : p i = true
    · rw [if_pos h, if_pos (hp i h)]; omega
    · rw [if_neg h]
      split <;> omega
theorem pivotsC_fac (q : Int) (l : List Int) (h9 : l.length ≤ 9) : ∀ x ∈ pivotsC q l, 0 ≤ x ∧ x ≤ facI (l.length : Int) := by
  intro x hx
  refine ⟨(pivotsC_le q l h9 x hx).1, ?_⟩
  obtain ⟨k, hk, rfl⟩ := List.mem_map.1 hx
  rw [← orders_all l.length (by omega) k (by simpa using hk)]
  exact sumN_mono (fun m h => by simp only [isSw, Bool.and_eq_true] at h; exact h.1.1) (fun m => (pivF_le h9 m).1) _
/-- How far the member furthest off is off, over n! times the whole weight, for the first i members. -/
def farF (q : Int) (l : List Int) : Nat → Int
  | 0 => 0
  | i + 1 => mx (mx (farF q l i) ((pivotsC q l).getD i 0 * l.sum - l.getD i 0 * facI (l.length : Int))) (-((pivotsC q l).getD i 0 * l.sum - l.getD i 0 * facI (l.length : Int)))
def farC (q : Int) (l : List Int) : Int := farF q l l.length
/-- As many rounds as every one of a list wants. -/
theorem Ev.each {α β : Type} (g : Nat → α → Option β) (p : α → β) : ∀ l : List α, (∀ x ∈ l, Ev (fun k => g k x) (p x)) → ∃ K, ∀ k, K ≤ k → ∀ x ∈ l, g k x = some (p x) := by
  intro l
  induction l with
  | nil => exact fun _ => ⟨0, fun _ _ x hx => absurd hx (by simp)⟩
  | cons a r ih =>
    intro h
    obtain ⟨K1, h1⟩ := h a List.mem_cons_self
    obtain ⟨K2, h2⟩ := ih (fun x hx => h x (List.mem_cons_of_mem _ hx))
    refine ⟨max K1 K2, fun k hk x hx => ?_⟩
    rcases List.mem_cons.1 hx with rfl | hx
    · exact h1 k (by omega)
    · exact h2 k (by omega) x hx
end Go.Proofs.YtbjgdbgaopgbjaaW.PrintMore
