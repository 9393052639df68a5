/- Plain facts of mine on printed functions: what they answer. No Go, no memory. -/
import Derived.Test.YtadlpnejkkblfaaPx17
import Derived.Test.YtadlpnejkkblfaaEv
import Derived.Test.YtadlpnejkkblfaaF2
import Derived.Test.YtadlpnejkkblfaaF3
import Derived.Test.YtadlpnejkkblfaaPow
import Derived.Test.YtadlpnejkkblfaaNeed
import Derived.Test.YtadlpnejkkblfaaNeed
import Derived.Test.YtadlpnejkkblfaaNeed
import Derived.Test.YtadlpnejkkblfaaSets
import Derived.Test.YtadlpnejkkblfaaGame
import Derived.Test.YtadlpnejkkblfaaSets
namespace Go.Proofs.Ytadlpnejkkblfaa.P
open Go.RowKit Go.Proofs.YtadlpnejkkblfaaW.PrintWords Go.Proofs.YtadlpnejkkblfaaW.PrintLast Go.Proofs.YtadlpnejkkblfaaW.PrintMore
set_option linter.unusedVariables false
set_option linter.unusedSimpArgs false

-- NEEDS Pow
theorem spec_voList.all : ∀ m, m < 512 → spec_voList.f 12 ((m : Nat) : Int) = some ((bitsL m).map fun (i : Nat) => (i : Int)) := by decide +kernel
theorem spec_voList.ev {m n : Nat} (h9 : n ≤ 9) (h : m < 2 ^ n) : Ev (fun k => spec_voList.f k (m : Int)) ((bitsL m).map fun (i : Nat) => (i : Int)) := Ev.of (fun k => spec_voList.mono _ k) (spec_voList.all m (Nat.lt_of_lt_of_le h (pow9 h9).2))

-- NEEDS Need
theorem spec_NeededMembers.ev (n : Int) (L : List (List Int)) (hL : L.length ≤ 9223372036854775807) (hr : ∀ s ∈ L, s.length ≤ 9223372036854775807) : Ev (fun k => spec_NeededMembers.f k n L) (if gameOK n L = true then (needC n L, true) else ([], false)) := by
  unfold spec_NeededMembers.f
  refine Ev.bind (spec_gmGood.ev n L hL hr) ?_
  cases h : gameOK n L with
  | false => exact Ev.neg (by decide) (Ev.now _)
  | true =>
    obtain ⟨h1, h2, h3, h4, h5⟩ := gameOK_iff h
    obtain ⟨m, rfl⟩ := Int.eq_ofNat_of_zero_le (show 0 ≤ n by omega)
    have hp := pow9 (n := m) (by omega)
    have hrow : ∀ (i : Nat) (h : i < L.length), rd_L1 L (i : Int) = L[i] := fun i h => by simp [rd_L1, h]
    have hs := need_same (by omega) h2 h3
    rw [Int.toNat_natCast] at hs
    refine Ev.pos rfl (Ev.one (spec_voAll.eq (n := m) (by omega)) ?_)
    rw [if_pos rfl]
    have hf := down (P := fun i => Ev (fun k => spec_NeededMembers.l0 k ((needM (2 ^ m - 1) (L.take i) : Nat) : Int) L (L.length : Int) (i : Int)) (needC (m : Int) L, true)) L.length ?_ ?_ 0 (Nat.zero_le _)
    · exact hf
    · refine Ev.step (fun k => by rw [spec_NeededMembers.l0]) ?_
      rw [List.take_length]
      have hle := needM_le L (2 ^ m - 1)
      refine Ev.neg (by omega) (Ev.bind (spec_voList.ev (n := m) (by omega) (by omega)) ?_)
      rw [hs]
      exact Ev.now _
    · intro i hi ih
      refine Ev.step (fun k => by rw [spec_NeededMembers.l0]) ?_
      have hin := setOK_in (rowsOK_at h3 (List.getElem_mem hi)).2
      have hmk : maskL L[i] < 2 ^ m := maskL_lt (fun x hx => by have := hin x hx; omega)
      have hle := needM_le (L.take i) (2 ^ m - 1)
      rw [hrow i hi, wrap_next hi hL]
      refine Ev.pos (by omega) (Ev.pos (by omega) (Ev.pos (by omega) (Ev.bind (spec_voBits.ev L[i] (fun x hx => by have := hin x hx; omega) (hr _ (List.getElem_mem hi))) ?_)))
      rw [and_nat (by omega) (by omega), ← needM_take hi]
      exact ih

theorem slices_Index_int_int.some (l : List Int) (a : Int) (hn : l.length ≤ 9223372036854775807) : ∃ r : Int, Ev (fun k => slices_Index_int_int.f k l a) r ∧ (decide (r ≥ 0) = decide (a ∈ l)) := by
  have h := down (P := fun i => ∃ r : Int, Ev (fun k => slices_Index_int_int.l0 k l a (l.length : Int) (i : Int)) r ∧ (decide (r ≥ 0) = decide (a ∈ l.drop i))) l.length ?_ ?_ 0 (Nat.zero_le _)
  · exact h
  · refine ⟨-1, Ev.step (fun k => by rw [slices_Index_int_int.l0]) (Ev.neg (by omega) (Ev.now _)), ?_⟩
    rw [List.drop_length]
    simp
  · intro i hi ih
    obtain ⟨r, h1, h2⟩ := ih
    by_cases he : a = l[i]
    · refine ⟨(i : Int), Ev.step (fun k => by rw [slices_Index_int_int.l0]) ?_, ?_⟩
      · rw [rd_nat hi]
        exact Ev.pos (by omega) (Ev.pos (by omega) (Ev.pos (by omega) (Ev.pos he (Ev.now _))))
      · rw [List.drop_eq_getElem_cons hi, decide_eq_true (show (i : Int) ≥ 0 by omega), decide_eq_true (by rw [he]; exact List.mem_cons_self)]
    · refine ⟨r, Ev.step (fun k => by rw [slices_Index_int_int.l0]) ?_, ?_⟩
      · rw [rd_nat hi, wrap_next hi hn]
        exact Ev.pos (by omega) (Ev.pos (by omega) (Ev.pos (by omega) (Ev.neg he h1)))
      · rw [h2, List.drop_eq_getElem_cons hi, Bool.eq_iff_iff, decide_eq_true_eq, decide_eq_true_eq, List.mem_cons]
        exact ⟨.inr, fun h => h.resolve_left he⟩
theorem slices_Contains_int_int.ev (l : List Int) (a : Int) (hn : l.length ≤ 9223372036854775807) : Ev (fun k => slices_Contains_int_int.f k l a) (decide (a ∈ l)) := by
  obtain ⟨r, h1, h2⟩ := slices_Index_int_int.some l a hn
  unfold slices_Contains_int_int.f
  refine Ev.bind h1 ?_
  rw [h2]
  exact Ev.now _

-- NEEDS Need
theorem impl_Game_needed.ev (n : Int) (L : List (List Int)) (h0 : 0 ≤ n) (h9 : n ≤ 9) (hr : ∀ s ∈ L, s.length ≤ 9223372036854775807) : Ev (fun k => impl_Game_needed.f k n L) (needC n L) := by
  obtain ⟨K, hK⟩ := Ev.each (fun k (p : Nat × List Int) => slices_Contains_int_int.f k p.2 (p.1 : Int)) (fun p => decide ((p.1 : Int) ∈ p.2)) ((List.range n.toNat).flatMap fun x => L.map fun s => (x, s)) (fun p hp => by
    obtain ⟨x, _, hx⟩ := List.mem_flatMap.1 hp
    obtain ⟨s, hs, rfl⟩ := List.mem_map.1 hx
    exact slices_Contains_int_int.ev s x (hr s hs))
  refine ⟨K, fun k hk => ?_⟩
  have h8 : ∀ x : Nat, x < n.toNat → ∀ s ∈ L, slices_Contains_int_int.f k s (x : Int) = some (decide ((x : Int) ∈ s)) := fun x hx s hs => hK k hk (x, s) (List.mem_flatMap.2 ⟨x, List.mem_range.2 hx, List.mem_map.2 ⟨s, hs, rfl⟩⟩)
  show impl_Game_needed.f k n L = some (needC n L)
  unfold impl_Game_needed.f
  rw [if_pos ⟨h0, by omega, List.all_eq_true.2 fun x hx => List.all_eq_true.2 fun s hs => by rw [h8 x (List.mem_range.1 hx) s hs]; rfl⟩]
  congr 1
  refine pickI_same (fun i hi => ?_)
  unfold impl_Game_needed.p needP
  rw [Bool.eq_iff_iff, Bool.not_eq_true', ← Bool.not_eq_true, List.any_eq_true, List.all_eq_true]
  constructor
  · intro h s hs
    have h5 := h8 i hi s hs
    cases hd : decide ((i : Int) ∈ s) with
    | true => rfl
    | false =>
      rw [hd] at h5
      exact absurd ⟨s, hs, by unfold impl_Game_needed.q; rw [h5]; rfl⟩ h
  · rintro h ⟨s, hs, h6⟩
    have h5 := h8 i hi s hs
    rw [h s hs] at h5
    unfold impl_Game_needed.q at h6
    rw [h5] at h6
    exact absurd h6 (by decide)

-- NEEDS Need
theorem impl_NeededMembers.ev (n : Int) (L : List (List Int)) (hL : L.length ≤ 9223372036854775807) (hr : ∀ s ∈ L, s.length ≤ 9223372036854775807) : Ev (fun k => impl_NeededMembers.f k n L) (if gameOK n L = true then (needC n L, true) else ([], false)) := by
  unfold impl_NeededMembers.f
  refine Ev.bind (impl_IsGame.ev n L hL hr) ?_
  cases h : gameOK n L with
  | false => exact Ev.neg (by decide) (Ev.now _)
  | true =>
    obtain ⟨h1, h2, h3, h4, h5⟩ := gameOK_iff h
    exact Ev.pos rfl (Ev.bind (impl_Game_needed.ev n L (by omega) h2 hr) (Ev.now _))

-- NEEDS Sets
theorem laws_markIntS.ev (l : List Int) (k0 : Int) (h0 : 0 ≤ k0) (h1 : k0 ≤ 1000000000000) (hn : l.length ≤ 1000000000000) : Ev (fun k => laws_markIntS.f k l k0) (k0 + l.length, seqI k0 l.length) := by
  unfold laws_markIntS.f
  have h := down (P := fun i => Ev (fun k => laws_markIntS.l0 k (seqI k0 i ++ l.drop i) (k0 + i) (i : Int)) (k0 + l.length, seqI k0 l.length)) l.length ?_ ?_ 0 (Nat.zero_le _)
  · simpa [seqI] using h
  · refine Ev.step (fun k => by rw [laws_markIntS.l0]) ?_
    exact Ev.neg (by simp [seqI]) ((Ev.now _).cast (by simp))
  · intro i hi ih
    refine Ev.step (fun k => by rw [laws_markIntS.l0]) ?_
    refine Ev.pos (by simp [seqI]; omega) (Ev.pos (by omega) ?_)
    rw [wrap_next hi (by omega), wrap_id (by omega) (by omega), Int.toNat_natCast]
    have e : (seqI k0 i ++ l.drop i).set i (k0 + i) = seqI k0 (i + 1) ++ l.drop (i + 1) := by
      rw [List.set_append_right _ _ (by simp [seqI]), seqI_length, Nat.sub_self, List.drop_eq_getElem_cons hi, List.set_cons_zero]
      unfold seqI
      rw [List.range_succ, List.map_append, List.append_assoc]
      rfl
    have e2 : k0 + (i : Int) + 1 = k0 + ((i + 1 : Nat) : Int) := by omega
    rw [e, e2]
    exact ih

-- NEEDS Game
theorem laws_markIntSS.go_ev : ∀ (L : List (List Int)) (a : Int), 0 ≤ a → a + sizeR L ≤ 1000000000000 → ∃ rows, Ev (fun k => laws_markIntSS.go k L a) (a + sizeR L, rows)
  | [], a, _, _ => ⟨[], (Ev.now (a, ([] : List (List Int)))).cast (by simp [sizeR])⟩
  | s :: r, a, h0, h1 => by
    have hs := sizeR_nonneg r
    have e : sizeR (s :: r) = s.length + sizeR r := rfl
    rw [e] at h1
    obtain ⟨rows, hr⟩ := laws_markIntSS.go_ev r (a + s.length) (by omega) (by omega)
    refine ⟨seqI a s.length :: rows, ?_⟩
    show Ev (fun k => (laws_markIntS.f k s a).bind fun p => (laws_markIntSS.go k r p.1).bind fun q => some (q.1, p.2 :: q.2)) _
    refine Ev.bind (laws_markIntS.ev s a h0 (by omega) (by omega)) (Ev.bind hr ((Ev.now _).cast ?_))
    rw [e, Int.add_assoc]
theorem laws_markGame.ev (n : Int) (L : List (List Int)) (a : Int) (h0 : 0 ≤ a) (h1 : a + sizeR L ≤ 1000000000000) (hL : L.length ≤ 2000000) : Ev (fun k => laws_markGame.f k n L a) (a + sizeR L) := by
  obtain ⟨rows, hr⟩ := laws_markIntSS.go_ev L a h0 h1
  have h2 : Ev (fun k => laws_markIntSS.f k L a) (a + sizeR L, rows) := by
    unfold laws_markIntSS.f
    exact Ev.pos hL hr
  unfold laws_markGame.f
  exact Ev.bind h2 (Ev.now _)

-- NEEDS Sets
theorem laws_heldIntS.ev (n : Nat) (k0 : Int) (h0 : 0 ≤ k0) (h1 : k0 ≤ 1000000000000) (hn : n ≤ 1000000000000) : Ev (fun k => laws_heldIntS.f k (seqI k0 n) k0) (k0 + n) := by
  unfold laws_heldIntS.f
  have hl := seqI_length k0 n
  have h := down (P := fun i => Ev (fun k => laws_heldIntS.l0 k (seqI k0 n) (k0 + i) (i : Int)) (k0 + n)) n ?_ ?_ 0 (Nat.zero_le _)
  · simpa using h
  · refine Ev.step (fun k => by rw [laws_heldIntS.l0]) ?_
    exact Ev.neg (by omega) (Ev.now _)
  · intro i hi ih
    refine Ev.step (fun k => by rw [laws_heldIntS.l0]) ?_
    refine Ev.pos (by omega) (Ev.pos (by omega) (Ev.pos (by rw [rd_nat (by omega), seqI_at]) ?_))
    have e2 : k0 + (i : Int) + 1 = k0 + ((i + 1 : Nat) : Int) := by omega
    rw [wrap_next hi (by omega), wrap_id (by omega) (by omega), e2]
    exact ih

end Go.Proofs.Ytadlpnejkkblfaa.P
