/- Plain facts of mine on printed functions: what they answer. No Go, no memory. -/
import Derived.Test.YtadlpnejkkblfaaPx2
import Derived.Test.YtadlpnejkkblfaaEv
import Derived.Test.YtadlpnejkkblfaaF1
import Derived.Test.YtadlpnejkkblfaaGame
import Derived.Test.YtadlpnejkkblfaaGame
import Derived.Test.YtadlpnejkkblfaaSets
import Derived.Test.YtadlpnejkkblfaaSets
import Derived.Test.YtadlpnejkkblfaaSets
import Derived.Test.YtadlpnejkkblfaaGame
import Derived.Test.YtadlpnejkkblfaaGame
import Derived.Test.YtadlpnejkkblfaaGame
import Derived.Test.YtadlpnejkkblfaaGame
import Derived.Test.YtadlpnejkkblfaaGame
import Derived.Test.YtadlpnejkkblfaaSets
import Derived.Test.YtadlpnejkkblfaaSets
import Derived.Test.YtadlpnejkkblfaaGame
import Derived.Test.YtadlpnejkkblfaaSets
import Derived.Test.YtadlpnejkkblfaaGame
namespace Go.Proofs.Ytadlpnejkkblfaa.P
open Go.RowKit Go.Proofs.YtadlpnejkkblfaaW.PrintWords Go.Proofs.YtadlpnejkkblfaaW.PrintLast Go.Proofs.YtadlpnejkkblfaaW.PrintMore
set_option linter.unusedVariables false
set_option linter.unusedSimpArgs false

theorem laws_szIntS.eq (l : List Int) (a : Int) (h0 : 0 ≤ a) (h1 : a ≤ 9223372036854775807) (hn : l.length ≤ 9223372036854775807) : laws_szIntS.f l a = some (if a - l.length < 0 then -1 else a - l.length) := by
  unfold laws_szIntS.f
  rw [wrap_id (by omega) (by omega)]
  split <;> rfl

-- NEEDS Game
theorem laws_szIntSS.ev (L : List (List Int)) (a : Int) (h0 : 0 ≤ a) (h1 : a ≤ 9223372036854775807) (hL : L.length ≤ 9223372036854775807) (hr : ∀ s ∈ L, s.length ≤ 9223372036854775807) : Ev (fun k => laws_szIntSS.f k L a) (if a - L.length - sizeR L < 0 then -1 else a - L.length - sizeR L) := by
  unfold laws_szIntSS.f
  have hrow : ∀ (i : Nat) (h : i < L.length), rd_L1 L (i : Int) = L[i] := fun i h => by simp [rd_L1, h]
  have hs := sizeR_nonneg L
  rw [wrap_id (x := a - (L.length : Int)) (by omega) (by omega)]
  by_cases hz : a - (L.length : Int) < 0
  · refine Ev.pos hz ((Ev.now _).cast ?_)
    rw [if_pos (by omega)]
  · refine Ev.neg hz ?_
    have h := down (P := fun i => ∀ b : Int, 0 ≤ b → b ≤ 9223372036854775807 → Ev (fun k => laws_szIntSS.l0 k L b (i : Int)) (if b - sizeR (L.drop i) < 0 then -1 else b - sizeR (L.drop i))) L.length ?_ ?_ 0 (Nat.zero_le _)
    · exact h _ (by omega) (by omega)
    · intro b hb0 hb1
      refine Ev.step (fun k => by rw [laws_szIntSS.l0]) ?_
      refine Ev.neg (by omega) ((Ev.now _).cast ?_)
      rw [List.drop_length, sizeR, if_neg (by omega)]
      omega
    · intro i hi ih b hb0 hb1
      refine Ev.step (fun k => by rw [laws_szIntSS.l0]) ?_
      have hn := hr L[i] (List.getElem_mem hi)
      have hd := sizeR_nonneg (L.drop (i + 1))
      rw [hrow i hi, wrap_next hi hL, sizeR_drop hi]
      refine Ev.pos (by omega) (Ev.pos (by omega) (Ev.one (laws_szIntS.eq L[i] b hb0 hb1 hn) ?_))
      by_cases hz : b - (L[i].length : Int) < 0
      · rw [if_pos hz]
        refine Ev.pos (by omega) ((Ev.now _).cast ?_)
        rw [if_pos (by omega)]
      · rw [if_neg hz]
        refine Ev.neg hz ((ih _ (by omega) (by omega)).cast ?_)
        rw [show b - (L[i].length : Int) - sizeR (L.drop (i + 1)) = b - ((L[i].length : Int) + sizeR (L.drop (i + 1))) by omega]

-- NEEDS Game
theorem laws_szGame.ev (n : Int) (L : List (List Int)) (a : Int) (h0 : 0 ≤ a) (h1 : a ≤ 9223372036854775807) (hL : L.length ≤ 9223372036854775807) (hr : ∀ s ∈ L, s.length ≤ 9223372036854775807) : Ev (fun k => laws_szGame.f k n L a) (if a - L.length - sizeR L < 0 then -1 else a - L.length - sizeR L) := by
  unfold laws_szGame.f
  refine Ev.bind (laws_szIntSS.ev L a h0 h1 hL hr) ?_
  by_cases h : a - L.length - sizeR L < 0
  · rw [if_pos h]
    exact Ev.pos (by omega) (Ev.now _)
  · rw [if_neg h]
    exact Ev.neg h (Ev.now _)

-- NEEDS Sets
theorem spec_voBits.ev (l : List Int) (h : ∀ x ∈ l, 0 ≤ x ∧ x ≤ 60) (hn : l.length ≤ 9223372036854775807) : Ev (fun k => spec_voBits.f k l) ((maskL l : Nat) : Int) := by
  unfold spec_voBits.f
  have h := down (P := fun i => Ev (fun k => spec_voBits.l0 k ((maskL (l.take i) : Nat) : Int) l (l.length : Int) (i : Int)) ((maskL l : Nat) : Int)) l.length ?_ ?_ 0 (Nat.zero_le _)
  · exact h
  · refine Ev.step (fun k => by rw [spec_voBits.l0]) ?_
    exact Ev.neg (by omega) ((Ev.now _).cast (by simp))
  · intro i hi ih
    refine Ev.step (fun k => by rw [spec_voBits.l0]) ?_
    have h1 := h l[i] (List.getElem_mem hi)
    have h2 : maskL (l.take i) < 2 ^ 61 := maskL_lt (fun x hx => by have := h x (List.mem_of_mem_take hx); omega)
    have h3 := shl_one (i := (l[i]).toNat) (by omega)
    rw [Int.toNat_of_nonneg h1.1] at h3
    have h4 : 2 ^ (l[i]).toNat < 2 ^ 63 := Nat.pow_lt_pow_right (by omega) (by omega)
    have h5 := or_nat (a := maskL (l.take i)) (b := 2 ^ (l[i]).toNat) (Nat.lt_of_lt_of_le h2 (by decide)) h4
    rw [rd_nat hi, wrap_next hi hn, h3, h5, ← maskL_take hi]
    exact Ev.pos (by omega) (Ev.pos (by omega) (Ev.pos (by omega) (Ev.pos (by omega) ih)))

-- NEEDS Sets
theorem spec_l1Rising.ev (l : List Int) (a b : Int) (hn : l.length ≤ 9223372036854775807) : Ev (fun k => spec_l1Rising.f k l a b) (l.all (inB a b) && risingL l) := by
  unfold spec_l1Rising.f
  have h := down (P := fun i => Ev (fun k => spec_l1Rising.l0 k l a b l (l.length : Int) (i : Int)) (((List.range l.length).drop i).all (fun i => inB a b (l.getD i 0) && decide (i = 0 ∨ l.getD (i - 1) 0 < l.getD i 0)))) l.length ?_ ?_ 0 (Nat.zero_le _)
  · refine Ev.cast h ?_
    rw [List.drop_zero, all_and, all_range]
    rfl
  · refine Ev.step (fun k => by rw [spec_l1Rising.l0]) ?_
    exact Ev.neg (by omega) ((Ev.now _).cast (by rw [List.drop_of_length_le (by simp)]; rfl))
  · intro i hi ih
    refine Ev.step (fun k => by rw [spec_l1Rising.l0]) ?_
    have e := all_from (fun i => inB a b (l.getD i 0) && decide (i = 0 ∨ l.getD (i - 1) 0 < l.getD i 0)) l.length i hi
    refine Ev.pos (by omega) (Ev.pos (by omega) (Ev.pos (by omega) (Ev.one (spec_l1In.eq _ _ _) ?_)))
    rw [rd_nat hi, wrap_next hi hn]
    rw [getI_at hi] at e
    cases h1 : inB a b l[i] with
    | false => exact Ev.neg (by decide) ((Ev.now _).cast (by rw [e, h1]; rfl))
    | true =>
      refine Ev.pos rfl ?_
      rw [h1, Bool.true_and] at e
      cases i with
      | zero => exact Ev.neg (by omega) (ih.cast (by rw [e]; simp))
      | succ j =>
        have e1 : wrap64 (((j + 1 : Nat) : Int) - 1) = (j : Int) := by
          rw [wrap_id (by omega) (by omega)]
          omega
        rw [e1, rd_nat (show j < l.length by omega)]
        refine Ev.pos (by omega) (Ev.pos (by omega) (Ev.pos (by omega) ?_))
        rw [show j + 1 - 1 = j from rfl, getI_at (show j < l.length by omega)] at e
        by_cases h2 : l[j] < l[j + 1]
        · exact Ev.neg (by omega) (ih.cast (by rw [e]; simp [h2]))
        · exact Ev.pos (by omega) ((Ev.now _).cast (by rw [e]; simp [h2]))

-- NEEDS Sets
theorem spec_voSet.ev (n : Int) (l : List Int) (h0 : 0 ≤ n) (h1 : n ≤ 1000000) (hn : l.length ≤ 9223372036854775807) : Ev (fun k => spec_voSet.f k n l) (setOK n l) := by
  unfold spec_voSet.f
  rw [wrap_id (by omega) (by omega)]
  exact Ev.bind (spec_l1Rising.ev l 0 (n - 1) hn) (Ev.now _)

-- NEEDS Game
theorem spec_gmSets.ev (n : Int) (L : List (List Int)) (m : Int) (hL : L.length ≤ 9223372036854775807) (hr : ∀ s ∈ L, s.length ≤ 9223372036854775807) : Ev (fun k => spec_gmSets.f k n L m) (inB 1 9 n && inB 1 m (L.length : Int) && rowsOK n L) := by
  unfold spec_gmSets.f
  have hrow : ∀ (i : Nat) (h : i < L.length), rd_L1 L (i : Int) = L[i] := fun i h => by simp [rd_L1, h]
  refine Ev.one (spec_l1In.eq _ _ _) ?_
  cases h9 : inB 1 9 n with
  | false =>
    refine Ev.neg (by decide) (Ev.step (fun k => by rw [spec_gmSets.j0]) ?_)
    exact Ev.pos rfl ((Ev.now _).cast (by simp))
  | true =>
    refine Ev.pos rfl (Ev.one (spec_l1In.eq _ _ _) ?_)
    have h9' := inB_iff.1 h9
    refine Ev.step (fun k => by rw [spec_gmSets.j0]) ?_
    cases hm : inB 1 m (L.length : Int) with
    | false => exact Ev.pos rfl (Ev.now _)
    | true =>
      refine Ev.neg (by decide) ?_
      have h := down (P := fun i => Ev (fun k => spec_gmSets.l0 k n L (L.length : Int) (i : Int)) ((L.drop i).all fun s => !(decide (s.length = 0)) && setOK n s)) L.length ?_ ?_ 0 (Nat.zero_le _)
      · exact h
      · refine Ev.step (fun k => by rw [spec_gmSets.l0]) ?_
        exact Ev.neg (by omega) ((Ev.now _).cast (by rw [List.drop_length]; rfl))
      · intro i hi ih
        refine Ev.step (fun k => by rw [spec_gmSets.l0]) ?_
        rw [hrow i hi, drop_all _ _ _ hi, wrap_next hi hL]
        refine Ev.pos (by omega) (Ev.pos (by omega) (Ev.pos (by omega) ?_))
        by_cases hz : L[i].length = 0
        · exact Ev.pos (by omega) ((Ev.now _).cast (by simp [hz]))
        · refine Ev.neg (by omega) (Ev.bind (spec_voSet.ev n L[i] (by omega) (by omega) (hr _ (List.getElem_mem hi))) ?_)
          cases hs : setOK n L[i] with
          | false => exact Ev.neg (by decide) ((Ev.now _).cast (by simp))
          | true => exact Ev.pos rfl (ih.cast (by simp [hz]))

-- NEEDS Game
theorem spec_voBefore.ev (a b : List Int) (ha : a.length ≤ 9223372036854775807) (hb : b.length ≤ 9223372036854775807) : Ev (fun k => spec_voBefore.f k a b) (ltL a b) := by
  unfold spec_voBefore.f
  have h := down (P := fun i => i ≤ b.length → Ev (fun k => spec_voBefore.l0 k a b (i : Int)) (ltL (a.drop i) (b.drop i))) a.length ?_ ?_ 0 (Nat.zero_le _) (Nat.zero_le _)
  · exact h
  · intro hle
    refine Ev.step (fun k => by rw [spec_voBefore.l0]) ?_
    refine Ev.neg (by omega) (Ev.step (fun k => by rw [spec_voBefore.j1]) (Ev.neg (by decide) ((Ev.now _).cast ?_)))
    rw [List.drop_length]
    by_cases h : a.length < b.length
    · rw [List.drop_eq_getElem_cons h]
      exact decide_eq_true (by omega)
    · rw [show b.drop a.length = [] from List.drop_of_length_le (by omega)]
      exact decide_eq_false (by omega)
  · intro i hi ih hle
    refine Ev.step (fun k => by rw [spec_voBefore.l0]) ?_
    refine Ev.pos (by omega) (Ev.step (fun k => by rw [spec_voBefore.j1]) ?_)
    rw [List.drop_eq_getElem_cons hi]
    by_cases h : i < b.length
    · rw [List.drop_eq_getElem_cons h]
      refine Ev.pos (decide_eq_true (by omega)) (Ev.pos (by omega) (Ev.pos (by omega) (Ev.pos (by omega) ?_)))
      rw [rd_nat hi, rd_nat h, wrap_next hi ha]
      unfold ltL
      by_cases he : a[i] = b[i]
      · rw [if_pos he]
        exact Ev.pos he (ih (by omega))
      · rw [if_neg he]
        exact Ev.neg he (Ev.now _)
    · rw [show b.drop i = [] from List.drop_of_length_le (by omega)]
      refine Ev.neg (by rw [decide_eq_true_eq]; omega) ((Ev.now _).cast ?_)
      exact decide_eq_false (by omega)

-- NEEDS Game
theorem spec_gmGood.ev (n : Int) (L : List (List Int)) (hL : L.length ≤ 9223372036854775807) (hr : ∀ s ∈ L, s.length ≤ 9223372036854775807) : Ev (fun k => spec_gmGood.f k n L) (gameOK n L) := by
  unfold spec_gmGood.f
  have hrow : ∀ (i : Nat) (h : i < L.length), rd_L1 L (i : Int) = L[i] := fun i h => by simp [rd_L1, h]
  refine Ev.bind (spec_gmSets.ev n L 126 hL hr) ?_
  cases h9 : inB 1 9 n with
  | false => exact Ev.neg (by simp) ((Ev.now _).cast (by simp [gameOK, h9]))
  | true =>
    have h9' := inB_iff.1 h9
    cases hro : rowsOK n L with
    | false => exact Ev.neg (by simp) ((Ev.now _).cast (by simp [gameOK, hro]))
    | true =>
      have hg : gameOK n L = (inB 1 126 (L.length : Int) && (List.range L.length).all (stepS L)) := by
        rw [gameOK, h9, hro, steps_same h9'.2 hro, inB, Bool.true_and, Bool.and_true, ← Bool.and_assoc]
        congr 1
        rw [Bool.eq_iff_iff]
        simp only [Bool.and_eq_true, Bool.not_eq_true', decide_eq_true_eq, decide_eq_false_iff_not]
        omega
      rw [hg]
      cases hm : inB 1 126 (L.length : Int) with
      | false => exact Ev.neg (by simp) ((Ev.now _).cast (by simp))
      | true =>
        refine Ev.pos rfl ?_
        rw [Bool.true_and]
        have hmask : ∀ (i : Nat) (h : i < L.length), Ev (fun k => spec_voBits.f k L[i]) ((maskR L i : Nat) : Int) ∧ maskR L i < 2 ^ 63 := fun i h => by
          have h1 := (rowsOK_at hro (List.getElem_mem h)).2
          have h2 := maskR_512 h9'.2 hro h
          refine ⟨?_, by omega⟩
          unfold maskR
          rw [rowL_at h]
          exact spec_voBits.ev L[i] (fun x hx => by have := setOK_in h1 x hx; omega) (hr _ (List.getElem_mem h))
        have h := down (P := fun i => Ev (fun k => spec_gmGood.l0 k L (L.length : Int) (i : Int) n L) (((List.range L.length).drop i).all (stepS L))) L.length ?_ ?_ 0 (Nat.zero_le _)
        · exact h
        · refine Ev.step (fun k => by rw [spec_gmGood.l0]) ?_
          exact Ev.neg (by omega) ((Ev.now _).cast (by rw [List.drop_of_length_le (by simp)]; rfl))
        · intro i hi ih
          refine Ev.step (fun k => by rw [spec_gmGood.l0]) ?_
          refine Ev.pos (by omega) (Ev.pos (by omega) (Ev.pos (by omega) ?_))
          rw [hrow i hi, all_from _ _ _ hi]
          have hj : ∀ b : Bool, b = !(riseR L i) → Ev (fun k => spec_gmGood.j1 k (i : Int) L[i] L (L.length : Int) (i : Int) b n L) (stepS L i && ((List.range L.length).drop (i + 1)).all (stepS L)) := by
            intro b hb
            refine Ev.step (fun k => by rw [spec_gmGood.j1]) ?_
            cases b with
            | true => exact Ev.pos rfl ((Ev.now _).cast (by simp [stepS, show riseR L i = false by simpa using hb]))
            | false =>
              refine Ev.neg (by decide) ?_
              have hs : stepS L i = (List.range i).all (freeS L i) := by simp [stepS, show riseR L i = true by simpa using hb]
              obtain ⟨m1, m2⟩ := hmask i hi
              have hlt : (L.take i).length = i := by rw [List.length_take]; omega
              rw [hs]
              refine Ev.bind m1 (Ev.pos (by omega) (Ev.pos (by omega) (Ev.one (a := L.take i) (by rw [Int.toNat_natCast]) ?_)))
              rw [hlt]
              have h := down (P := fun c => Ev (fun k => spec_gmGood.l1 k ((maskR L i : Nat) : Int) L (L.length : Int) (i : Int) (L.take i) (i : Int) (c : Int) n L) (((List.range i).drop c).all (freeS L i) && ((List.range L.length).drop (i + 1)).all (stepS L))) i ?_ ?_ 0 (Nat.zero_le _)
              · exact h
              · refine Ev.step (fun k => by rw [spec_gmGood.l1]) ?_
                refine Ev.neg (by omega) ?_
                rw [wrap_next hi hL]
                exact ih.cast (by rw [show (List.range i).drop i = [] from List.drop_of_length_le (by simp)]; rfl)
              · intro c hc ihc
                refine Ev.step (fun k => by rw [spec_gmGood.l1]) ?_
                have hc2 : c < L.length := by omega
                have hrc : rd_L1 (L.take i) (c : Int) = L[c] := by simp [rd_L1, hc, hc2]
                refine Ev.pos (by omega) (Ev.pos (by omega) (Ev.pos (by rw [hlt]; omega) ?_))
                rw [hrc, wrap_next hc (by omega), all_from _ _ _ hc]
                obtain ⟨m3, m4⟩ := hmask c hc2
                refine Ev.bind m3 ?_
                rw [and_nat m2 m4]
                by_cases hm1 : maskR L i &&& maskR L c = maskR L i
                · exact Ev.pos (by rw [hm1]) ((Ev.now _).cast (by simp [freeS, hm1]))
                · refine Ev.neg (by omega) ?_
                  by_cases hm2 : maskR L i &&& maskR L c = maskR L c
                  · exact Ev.pos (by rw [hm2]) ((Ev.now _).cast (by simp [freeS, hm2]))
                  · exact Ev.neg (by omega) (ihc.cast (by simp [freeS, hm1, hm2]))
          cases i with
          | zero => exact Ev.neg (by omega) (hj false (by simp [riseR]))
          | succ j =>
            have hj1 : j < L.length := by omega
            have e1 : wrap64 (((j + 1 : Nat) : Int) - 1) = (j : Int) := by
              rw [wrap_id (by omega) (by omega)]
              omega
            rw [e1, hrow j hj1]
            refine Ev.pos (by omega) (Ev.pos (by omega) (Ev.pos (by omega) (Ev.bind (spec_voBefore.ev _ _ (hr _ (List.getElem_mem hj1)) (hr _ (List.getElem_mem hi))) (hj _ ?_))))
            rw [riseR, show j + 1 - 1 = j from rfl, rowL_at hj1, rowL_at hi]
            simp

theorem laws_toIntS.ev (l : List Int) (hn : l.length ≤ 35184372088832) : Ev (fun k => laws_toIntS.f k l) l := by
  unfold laws_toIntS.f
  refine Ev.pos (by omega) (Ev.pos (by omega) ?_)
  rw [Int.toNat_natCast]
  have h := down (P := fun i => Ev (fun k => laws_toIntS.l0 k l (l.take i ++ List.replicate (l.length - i) 0) (i : Int)) l) l.length ?_ ?_ 0 (Nat.zero_le _)
  · simpa using h
  · refine Ev.step (fun k => by rw [laws_toIntS.l0]) ?_
    exact Ev.neg (by omega) ((Ev.now _).cast (by simp))
  · intro i hi ih
    refine Ev.step (fun k => by rw [laws_toIntS.l0]) ?_
    refine Ev.pos (by omega) (Ev.pos (by omega) (Ev.pos (by simp; omega) ?_))
    rw [rd_nat hi, wrap_next hi (by omega), Int.toNat_natCast]
    have e : (l.take i ++ List.replicate (l.length - i) 0).set i l[i] = l.take (i + 1) ++ List.replicate (l.length - (i + 1)) 0 := by
      rw [List.set_append_right _ _ (by simp; omega), List.length_take, Nat.min_eq_left (by omega), Nat.sub_self]
      obtain ⟨d, hd⟩ : ∃ d, l.length - i = d + 1 := ⟨l.length - i - 1, by omega⟩
      rw [hd, List.replicate_succ, List.set_cons_zero, show l.length - (i + 1) = d by omega, List.take_succ_eq_append_getElem hi, List.append_assoc]
      rfl
    rw [e]
    exact ih

-- NEEDS Game
theorem laws_toIntSS.ev (L : List (List Int)) (hL : L.length ≤ 1048576) (hr : ∀ s ∈ L, s.length ≤ 1048576) : Ev (fun k => laws_toIntSS.f k L) L := by
  unfold laws_toIntSS.f
  have hrow : ∀ (i : Nat) (h : i < L.length), rd_L1 L (i : Int) = L[i] := fun i h => by simp [rd_L1, h]
  refine Ev.pos (by omega) (Ev.pos (by omega) ?_)
  rw [Int.toNat_natCast]
  have h := down (P := fun i => Ev (fun k => laws_toIntSS.l0 k L (L.take i ++ List.replicate (L.length - i) []) (i : Int)) L) L.length ?_ ?_ 0 (Nat.zero_le _)
  · simpa using h
  · refine Ev.step (fun k => by rw [laws_toIntSS.l0]) ?_
    exact Ev.neg (by omega) ((Ev.now _).cast (by simp))
  · intro i hi ih
    refine Ev.step (fun k => by rw [laws_toIntSS.l0]) ?_
    rw [hrow i hi, wrap_next hi (by omega), Int.toNat_natCast]
    refine Ev.pos (by omega) (Ev.pos (by omega) (Ev.bind (laws_toIntS.ev L[i] (by have := hr _ (List.getElem_mem hi); omega)) (Ev.pos (by simp; omega) ?_)))
    have e : (L.take i ++ List.replicate (L.length - i) []).set i L[i] = L.take (i + 1) ++ List.replicate (L.length - (i + 1)) [] := by
      rw [List.set_append_right _ _ (by simp; omega), List.length_take, Nat.min_eq_left (by omega), Nat.sub_self]
      obtain ⟨d, hd⟩ : ∃ d, L.length - i = d + 1 := ⟨L.length - i - 1, by omega⟩
      rw [hd, List.replicate_succ, List.set_cons_zero, show L.length - (i + 1) = d by omega, List.take_succ_eq_append_getElem hi, List.append_assoc]
      rfl
    rw [e]
    exact ih

-- NEEDS Game
theorem laws_toGame.ev (n : Int) (L : List (List Int)) (hL : L.length ≤ 1048576) (hr : ∀ s ∈ L, s.length ≤ 1048576) : Ev (fun k => laws_toGame.f k n L) (n, L) := by
  unfold laws_toGame.f
  exact Ev.bind (laws_toIntSS.ev L hL hr) (Ev.now _)

-- NEEDS Sets
theorem impl_isIncreasing.ev (l : List Int) (hn : l.length ≤ 9223372036854775807) : Ev (fun k => impl_isIncreasing.f k l) (risingL l) := by
  unfold impl_isIncreasing.f
  have h := down (P := fun i => Ev (fun k => impl_isIncreasing.l0 k l (l.length : Int) (i : Int)) (((List.range l.length).drop i).all (fun i => decide (i = 0 ∨ l.getD (i - 1) 0 < l.getD i 0)))) l.length ?_ ?_ 0 (Nat.zero_le _)
  · exact h
  · refine Ev.step (fun k => by rw [impl_isIncreasing.l0]) ?_
    exact Ev.neg (by omega) ((Ev.now _).cast (by rw [List.drop_of_length_le (by simp)]; rfl))
  · intro i hi ih
    refine Ev.step (fun k => by rw [impl_isIncreasing.l0]) ?_
    have e := all_from (fun i => decide (i = 0 ∨ l.getD (i - 1) 0 < l.getD i 0)) l.length i hi
    refine Ev.pos (by omega) ?_
    rw [wrap_next hi hn]
    rw [getI_at hi] at e
    cases i with
    | zero => exact Ev.neg (by omega) (ih.cast (by rw [e]; simp))
    | succ j =>
      have e1 : wrap64 (((j + 1 : Nat) : Int) - 1) = (j : Int) := by
        rw [wrap_id (by omega) (by omega)]
        omega
      rw [e1, rd_nat hi, rd_nat (show j < l.length by omega)]
      refine Ev.pos (by omega) (Ev.pos (by omega) (Ev.pos (by omega) (Ev.pos (by omega) (Ev.pos (by omega) ?_))))
      rw [show j + 1 - 1 = j from rfl, getI_at (show j < l.length by omega)] at e
      by_cases h2 : l[j] < l[j + 1]
      · exact Ev.neg (by omega) (ih.cast (by rw [e]; simp [h2]))
      · exact Ev.pos (by omega) ((Ev.now _).cast (by rw [e]; simp [h2]))

-- NEEDS Sets
theorem impl_isSet.ev (n : Int) (l : List Int) (h0 : 0 ≤ n) (h1 : n ≤ 1000000) (hn : l.length ≤ 9223372036854775807) : Ev (fun k => impl_isSet.f k l n) (setOK n l) := by
  unfold impl_isSet.f
  rw [wrap_id (by omega) (by omega)]
  refine Ev.one (show impl_areIn.f l 0 (n - 1) = some _ from rfl) ?_
  cases h : l.all (inB 0 (n - 1)) with
  | false => exact Ev.neg (by decide) ((Ev.now _).cast (by simp [setOK, h]))
  | true => exact Ev.pos rfl (Ev.bind (impl_isIncreasing.ev l hn) ((Ev.now _).cast (by simp [setOK, h])))

-- NEEDS Game
theorem impl_areSets.ev (n : Int) (L : List (List Int)) (h0 : 0 ≤ n) (h1 : n ≤ 1000000) (hr : ∀ s ∈ L, s.length ≤ 9223372036854775807) : Ev (fun k => impl_areSets.f k L n) (rowsOK n L) := by
  obtain ⟨K, hK⟩ := Ev.each (fun k s => impl_isSet.f k s n) (setOK n) L (fun s hs => impl_isSet.ev n s h0 h1 (hr s hs))
  refine ⟨K, fun k hk => ?_⟩
  have h2 := hK k hk
  show impl_areSets.f k L n = some (rowsOK n L)
  unfold impl_areSets.f
  rw [if_pos (List.all_eq_true.2 fun s hs => by rw [h2 s hs]; rfl)]
  have e : L.any (impl_areSets.p k n) = L.any (fun s => decide (s.length = 0) || !(setOK n s)) := any_same (fun s hs => by unfold impl_areSets.p; rw [h2 s hs]; rfl)
  rw [e]
  unfold rowsOK
  rw [List.not_any_eq_all_not]
  congr 2
  funext s
  simp

-- NEEDS Sets
theorem impl_maskOf.ev (l : List Int) (h : ∀ x ∈ l, 0 ≤ x ∧ x ≤ 60) (hn : l.length ≤ 9223372036854775807) : Ev (fun k => impl_maskOf.f k l) ((maskL l : Nat) : Int) := by
  unfold impl_maskOf.f
  have h := down (P := fun i => Ev (fun k => impl_maskOf.l0 k ((maskL (l.take i) : Nat) : Int) l (l.length : Int) (i : Int)) ((maskL l : Nat) : Int)) l.length ?_ ?_ 0 (Nat.zero_le _)
  · exact h
  · refine Ev.step (fun k => by rw [impl_maskOf.l0]) ?_
    exact Ev.neg (by omega) ((Ev.now _).cast (by simp))
  · intro i hi ih
    refine Ev.step (fun k => by rw [impl_maskOf.l0]) ?_
    have h1 := h l[i] (List.getElem_mem hi)
    have h2 : maskL (l.take i) < 2 ^ 61 := maskL_lt (fun x hx => by have := h x (List.mem_of_mem_take hx); omega)
    have h3 := shl_one (i := (l[i]).toNat) (by omega)
    rw [Int.toNat_of_nonneg h1.1] at h3
    have h4 : 2 ^ (l[i]).toNat < 2 ^ 63 := Nat.pow_lt_pow_right (by omega) (by omega)
    have h5 := or_nat (a := maskL (l.take i)) (b := 2 ^ (l[i]).toNat) (Nat.lt_of_lt_of_le h2 (by decide)) h4
    rw [rd_nat hi, wrap_next hi hn, h3, h5, ← maskL_take hi]
    exact Ev.pos (by omega) (Ev.pos (by omega) (Ev.pos (by omega) (Ev.pos (by omega) ih)))

-- NEEDS Game
theorem impl_IsGame.ev (n : Int) (L : List (List Int)) (hL : L.length ≤ 9223372036854775807) (hr : ∀ s ∈ L, s.length ≤ 9223372036854775807) : Ev (fun k => impl_IsGame.f k n L) (gameOK n L) := by
  unfold impl_IsGame.f
  have hrow : ∀ (i : Nat) (h : i < L.length), rd_L1 L (i : Int) = L[i] := fun i h => by simp [rd_L1, h]
  refine Ev.one (impl_within.eq _ _ _) ?_
  have hbad : gameOK n L = false → Ev (fun k => impl_IsGame.j0 k true n L) (gameOK n L) := fun h => by
    rw [h]
    exact Ev.step (fun k => by rw [impl_IsGame.j0]) (Ev.pos rfl (Ev.now _))
  cases h9 : inB 1 9 n with
  | false => exact Ev.neg (by decide) (hbad (by simp [gameOK, h9]))
  | true =>
    refine Ev.pos rfl ?_
    have h9' := inB_iff.1 h9
    by_cases hz : (L.length : Int) = 0
    · exact Ev.pos hz (hbad (by simp [gameOK, show L.length = 0 by omega]))
    refine Ev.neg hz (Ev.bind (impl_areSets.ev n L (by omega) (by omega) hr) ?_)
    cases hro : rowsOK n L with
    | false => exact hbad (by simp [gameOK, hro])
    | true =>
      have hg : gameOK n L = (List.range L.length).all (stepI L) := by simp [gameOK, hro, h9, show ¬ L.length = 0 by omega]
      rw [hg]
      refine Ev.step (fun k => by rw [impl_IsGame.j0]) (Ev.neg (by decide) ?_)
      have hmask : ∀ (i : Nat) (h : i < L.length), Ev (fun k => impl_maskOf.f k L[i]) ((maskR L i : Nat) : Int) ∧ maskR L i < 2 ^ 63 := fun i h => by
        have h1 := (rowsOK_at hro (List.getElem_mem h)).2
        have h2 := maskR_512 h9'.2 hro h
        refine ⟨?_, by omega⟩
        unfold maskR
        rw [rowL_at h]
        exact impl_maskOf.ev L[i] (fun x hx => by have := setOK_in h1 x hx; omega) (hr _ (List.getElem_mem h))
      have h := down (P := fun i => Ev (fun k => impl_IsGame.l0 k L (L.length : Int) (i : Int) n L) (((List.range L.length).drop i).all (stepI L))) L.length ?_ ?_ 0 (Nat.zero_le _)
      · exact h
      · refine Ev.step (fun k => by rw [impl_IsGame.l0]) ?_
        exact Ev.neg (by omega) ((Ev.now _).cast (by rw [List.drop_of_length_le (by simp)]; rfl))
      · intro i hi ih
        refine Ev.step (fun k => by rw [impl_IsGame.l0]) ?_
        refine Ev.pos (by omega) (Ev.pos (by omega) (Ev.pos (by omega) ?_))
        rw [hrow i hi, all_from _ _ _ hi]
        have hj : ∀ b : Bool, b = !(riseR L i) → Ev (fun k => impl_IsGame.j2 k (i : Int) L[i] L (L.length : Int) (i : Int) b n L) (stepI L i && ((List.range L.length).drop (i + 1)).all (stepI L)) := by
          intro b hb
          refine Ev.step (fun k => by rw [impl_IsGame.j2]) ?_
          cases b with
          | true => exact Ev.pos rfl ((Ev.now _).cast (by simp [stepI, show riseR L i = false by simpa using hb]))
          | false =>
            refine Ev.neg (by decide) ?_
            have hs : stepI L i = (List.range L.length).all (freeI L i) := by simp [stepI, show riseR L i = true by simpa using hb]
            rw [hs]
            have h := down (P := fun c => Ev (fun k => impl_IsGame.l1 k (i : Int) L[i] L (L.length : Int) (i : Int) L (L.length : Int) (c : Int) n L) (((List.range L.length).drop c).all (freeI L i) && ((List.range L.length).drop (i + 1)).all (stepI L))) L.length ?_ ?_ 0 (Nat.zero_le _)
            · exact h
            · refine Ev.step (fun k => by rw [impl_IsGame.l1]) ?_
              refine Ev.neg (by omega) ?_
              rw [wrap_next hi hL]
              exact ih.cast (by rw [show (List.range L.length).drop L.length = [] from List.drop_of_length_le (by simp)]; rfl)
            · intro c hc ihc
              refine Ev.step (fun k => by rw [impl_IsGame.l1]) ?_
              refine Ev.pos (by omega) (Ev.pos (by omega) (Ev.pos (by omega) ?_))
              rw [hrow c hc, wrap_next hc hL, all_from _ _ _ hc]
              by_cases he : c = i
              · exact Ev.pos (by omega) (ihc.cast (by simp [freeI, he]))
              · refine Ev.neg (by omega) ?_
                obtain ⟨m1, m2⟩ := hmask i hi
                obtain ⟨m3, m4⟩ := hmask c hc
                refine Ev.bind m1 (Ev.bind m3 (Ev.bind m3 ?_))
                rw [and_nat m2 m4]
                by_cases hm : maskR L i &&& maskR L c = maskR L c
                · exact Ev.pos (by rw [hm]) ((Ev.now _).cast (by simp [freeI, he, hm]))
                · exact Ev.neg (by omega) (ihc.cast (by simp [freeI, hm]))
        cases i with
        | zero => exact Ev.neg (by omega) (hj false (by simp [riseR]))
        | succ j =>
          have hj1 : j < L.length := by omega
          have e1 : wrap64 (((j + 1 : Nat) : Int) - 1) = (j : Int) := by
            rw [wrap_id (by omega) (by omega)]
            omega
          rw [e1, hrow j hj1]
          refine Ev.pos (by omega) (Ev.pos (by omega) (Ev.pos (by omega) (Ev.bind (slices_Compare_int_int.ev _ _ (hr _ (List.getElem_mem hj1)) (hr _ (List.getElem_mem hi))) (hj _ ?_))))
          rw [cmpL_ge, riseR, show j + 1 - 1 = j from rfl, rowL_at hj1, rowL_at hi]
          simp

theorem laws_eqIntS.ev (l : List Int) (hn : l.length ≤ 9223372036854775807) : Ev (fun k => laws_eqIntS.f k l l) true := by
  unfold laws_eqIntS.f
  refine Ev.pos rfl ?_
  have h := down (P := fun i => Ev (fun k => laws_eqIntS.l0 k l l (i : Int)) true) l.length ?_ ?_ 0 (Nat.zero_le _)
  · exact h
  · refine Ev.step (fun k => by rw [laws_eqIntS.l0]) ?_
    exact Ev.neg (by omega) (Ev.now _)
  · intro i hi ih
    refine Ev.step (fun k => by rw [laws_eqIntS.l0]) ?_
    refine Ev.pos (by omega) (Ev.pos (by omega) (Ev.pos (by omega) (Ev.pos rfl ?_)))
    rw [wrap_next hi hn]
    exact ih

theorem laws_eqIntSS.ev (L : List (List Int)) (hL : L.length ≤ 9223372036854775807) (hr : ∀ s ∈ L, s.length ≤ 9223372036854775807) : Ev (fun k => laws_eqIntSS.f k L L) true := by
  unfold laws_eqIntSS.f
  have hrow : ∀ (i : Nat) (h : i < L.length), rd_L1 L (i : Int) = L[i] := fun i h => by simp [rd_L1, h]
  refine Ev.pos rfl ?_
  have h := down (P := fun i => Ev (fun k => laws_eqIntSS.l0 k L L (i : Int)) true) L.length ?_ ?_ 0 (Nat.zero_le _)
  · exact h
  · refine Ev.step (fun k => by rw [laws_eqIntSS.l0]) ?_
    exact Ev.neg (by omega) (Ev.now _)
  · intro i hi ih
    refine Ev.step (fun k => by rw [laws_eqIntSS.l0]) ?_
    rw [hrow i hi, wrap_next hi hL]
    exact Ev.pos (by omega) (Ev.pos (by omega) (Ev.pos (by omega) (Ev.bind (laws_eqIntS.ev L[i] (hr _ (List.getElem_mem hi))) (Ev.pos rfl ih))))

theorem laws_eqGame.ev (n : Int) (L : List (List Int)) (hL : L.length ≤ 9223372036854775807) (hr : ∀ s ∈ L, s.length ≤ 9223372036854775807) : Ev (fun k => laws_eqGame.f k n L n L) true := by
  unfold laws_eqGame.f
  exact Ev.pos rfl (Ev.bind (laws_eqIntSS.ev L hL hr) (Ev.pos rfl (Ev.now _)))

end Go.Proofs.Ytadlpnejkkblfaa.P
