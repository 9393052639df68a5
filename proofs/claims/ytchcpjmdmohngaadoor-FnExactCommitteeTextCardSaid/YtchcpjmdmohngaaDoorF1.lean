/- Plain facts of mine on printed functions: what they answer. No Go, no memory. -/
import Derived.Test.YtchcpjmdmohngaaDoorPx1
import Derived.Test.YtchcpjmdmohngaaDoorEv
namespace Go.Proofs.YtchcpjmdmohngaaDoor.P
open Go.RowKit Go.Proofs.YtchcpjmdmohngaaDoorW.PrintWords Go.Proofs.YtchcpjmdmohngaaDoorW.PrintLast Go.Proofs.YtchcpjmdmohngaaDoorW.PrintMore
set_option linter.unusedVariables false
set_option linter.unusedSimpArgs false

theorem laws_szIntS.eq (l : List Int) (a : Int) (h0 : 0 ≤ a) (h1 : a ≤ 9223372036854775807) (hn : l.length ≤ 9223372036854775807) : laws_szIntS.f l a = some (if a - l.length < 0 then -1 else a - l.length) := by
  unfold laws_szIntS.f
  rw [wrap_id (by omega) (by omega)]
  split <;> rfl

theorem laws_szCommittee.eq (q : Int) (l : List Int) (a : Int) (h0 : 0 ≤ a) (h1 : a ≤ 9223372036854775807) (hn : l.length ≤ 9223372036854775807) : laws_szCommittee.f q l a = some (if a - l.length < 0 then -1 else a - l.length) := by
  unfold laws_szCommittee.f
  rw [laws_szIntS.eq l a h0 h1 hn, Option.bind_some]
  by_cases h : a - l.length < 0
  · simp [h]
  · simp [h]

theorem spec_l1In.eq (a b c : Int) : spec_l1In.f a b c = some (inB b c a) := by
  unfold spec_l1In.f inB
  by_cases h : a ≥ b
  · simp [h]
  · simp [h]

theorem spec_l1All.ev (l : List Int) (a b : Int) (hn : l.length ≤ 9223372036854775807) : Ev (fun k => spec_l1All.f k l a b) (l.all (inB a b)) := by
  unfold spec_l1All.f
  have h := down (P := fun i => Ev (fun k => spec_l1All.l0 k a b l (l.length : Int) (i : Int)) ((l.drop i).all (inB a b))) l.length ?_ ?_ 0 (Nat.zero_le _)
  · simpa using h
  · refine Ev.step (fun k => by rw [spec_l1All.l0]) ?_
    exact Ev.neg (by omega) ((Ev.now _).cast (by simp))
  · intro i hi ih
    refine Ev.step (fun k => by rw [spec_l1All.l0]) ?_
    refine Ev.pos (by omega) (Ev.pos (by omega) (Ev.pos (by omega) ?_))
    refine Ev.one (spec_l1In.eq _ _ _) ?_
    rw [rd_nat hi, wrap_next hi hn]
    cases hq : inB a b l[i] with
    | true => exact Ev.pos rfl (ih.cast (by rw [drop_all _ _ _ hi, hq, Bool.true_and]))
    | false => exact Ev.neg (by decide) ((Ev.now _).cast (by rw [drop_all _ _ _ hi, hq, Bool.false_and]))

theorem spec_voSum.ev (l : List Int) (B : Int) (hB : ∀ x ∈ l, 0 ≤ x ∧ x ≤ B) (hn : l.length ≤ 1000000) (hb : B ≤ 1000000000000) : Ev (fun k => spec_voSum.f k l) l.sum := by
  unfold spec_voSum.f
  have h := down (P := fun i => Ev (fun k => spec_voSum.l0 k (l.take i).sum l (l.length : Int) (i : Int)) l.sum) l.length ?_ ?_ 0 (Nat.zero_le _)
  · simpa using h
  · refine Ev.step (fun k => by rw [spec_voSum.l0]) ?_
    exact Ev.neg (by omega) ((Ev.now _).cast (by simp))
  · intro i hi ih
    refine Ev.step (fun k => by rw [spec_voSum.l0]) ?_
    refine Ev.pos (by omega) (Ev.pos (by omega) (Ev.pos (by omega) ?_))
    have h1 := take_sum_le hB i (by omega)
    have h2 := hB l[i] (List.getElem_mem hi)
    have h3 : (i : Int) * B ≤ 1000000 * 1000000000000 := by
      have h4 : (i : Int) * B ≤ i * 1000000000000 := Int.mul_le_mul_of_nonneg_left hb (by omega)
      omega
    rw [rd_nat hi, wrap_next hi (by omega), wrap_id (by omega) (by omega), ← sum_take hi]
    exact ih

theorem spec_voGood.ev (q : Int) (l : List Int) (hn : l.length ≤ 9223372036854775807) : Ev (fun k => spec_voGood.f k q l) (goodC q l) := by
  unfold spec_voGood.f
  refine Ev.one (spec_l1In.eq _ _ _) ?_
  have hj : ∀ b : Bool, (b = false → l.length ≤ 9 ∧ l.all (inB 0 1000) = true) → Ev (fun k => spec_voGood.j0 k b q l) (!b && inB 1 l.sum q) := by
    intro b hb
    refine Ev.step (fun k => by rw [spec_voGood.j0]) ?_
    cases b with
    | true => exact Ev.pos rfl (Ev.now _)
    | false =>
      obtain ⟨h1, h2⟩ := hb rfl
      refine Ev.neg (by decide) (Ev.bind (spec_voSum.ev l 1000 (fun x hx => inB_iff.1 (all_mem.1 h2 x hx)) (by omega) (by omega)) (Ev.one (spec_l1In.eq _ _ _) ((Ev.now _).cast (by simp))))
  cases h1 : inB 1 9 (l.length : Int) with
  | false => exact Ev.neg (by decide) ((hj true (by simp)).cast (by simp [goodC, h1]))
  | true =>
    refine Ev.pos rfl (Ev.bind (spec_l1All.ev l 0 1000 hn) ((hj _ ?_).cast ?_))
    · intro h2
      have := inB_iff.1 h1
      exact ⟨by omega, by simpa using h2⟩
    · simp [goodC, h1]

theorem bytes_eq {a b : ByteArray} (h : a.data.toList = b.data.toList) : a = b := by
  cases a with
  | mk a =>
    cases b with
    | mk b =>
      congr 1
      exact Array.toList_inj.1 h
theorem bytes_app (a b : ByteArray) : (a ++ b).data.toList = a.data.toList ++ b.data.toList := by simp [ByteArray.data_append]
theorem numT_nat (n : Nat) : numT (n : Int) = ⟨(Lib.decDigits n).toArray⟩ := by unfold numT; rw [Lib.itoa_nonneg]
theorem spec_l1Num.ev : ∀ n : Nat, n ≤ 1000000 → Ev (fun k => spec_l1Num.f k (n : Int)) (numT (n : Int)) := by
  intro n
  induction n using Nat.strongRecOn with
  | _ n ih =>
    intro hn
    refine Ev.step (fun k => by rw [spec_l1Num.f]) ?_
    by_cases h : n < 10
    · refine Ev.pos (by omega) ((Ev.now _).cast ?_)
      have e : (wrap64 (48 + (n : Int))) % 256 = ((48 + n : Nat) : Int) := by rw [wrap_id (by omega) (by omega)]; omega
      rw [e, numT_nat, Lib.decDigits_one h]
      rfl
    · refine Ev.neg (by omega) ?_
      have e1 : wrap64 (Int.tdiv (n : Int) 10) = ((n / 10 : Nat) : Int) := by
        have e2 : Int.tdiv (n : Int) 10 = ((n / 10 : Nat) : Int) := (Int.ofNat_tdiv n 10).symm
        rw [e2, wrap_id (by omega) (by omega)]
      have e3 : (wrap64 (48 + (Int.tmod (n : Int) 10))) % 256 = ((48 + n % 10 : Nat) : Int) := by
        have e2 : Int.tmod (n : Int) 10 = ((n % 10 : Nat) : Int) := (Int.ofNat_tmod n 10).symm
        rw [e2, wrap_id (by omega) (by omega)]
        omega
      have hsz := numT_size ((n / 10 : Nat) : Int) (by omega) (by omega)
      rw [e1, e3]
      have hs1 : (strOfNums [((48 + n % 10 : Nat) : Int)]).size = 1 := rfl
      refine Ev.bind (ih (n / 10) (by omega) (by omega)) (Ev.one rfl (Ev.pos (by rw [hs1]; omega) ((Ev.now _).cast ?_)))
      apply bytes_eq
      rw [bytes_app, numT_nat, numT_nat, Lib.decDigits.eq_def n, dif_neg h]
      show Lib.decDigits (n / 10) ++ [UInt8.ofNat (((48 + n % 10 : Nat) : Int)).toNat] = Lib.decDigits (n / 10) ++ [UInt8.ofNat (48 + n % 10)]
      rw [Int.toNat_natCast]

theorem joinT_nil : joinT [] = ⟨#[]⟩ := rfl
theorem joinT_one (y : ByteArray) : joinT [y] = y := by
  apply bytes_eq
  simp [joinT, Lib.join_one]
theorem joinT_snoc (xs : List ByteArray) (y : ByteArray) (h : 1 ≤ xs.length) : joinT (xs ++ [y]) = (joinT xs ++ ⟨#[44]⟩) ++ y := by
  apply bytes_eq
  rw [bytes_app, bytes_app]
  cases xs with
  | nil => simp at h
  | cons x r =>
    have e1 : (joinT (x :: r ++ [y])).data.toList = Lib.join ((x :: r ++ [y]).map (·.data.toList)) [44] := by simp [joinT]
    have e2 : (joinT (x :: r)).data.toList = Lib.join ((x :: r).map (·.data.toList)) [44] := by simp [joinT]
    rw [e1, e2, List.cons_append, List.map_cons, List.map_cons, Lib.join_cons, Lib.join_cons, List.map_append]
    simp [Lib.joinTail]
theorem spec_voText.ev (q : Nat) (l : List Int) (hq : q ≤ 1000000) (h9 : l.length ≤ 1000) (hx : ∀ x ∈ l, 0 ≤ x ∧ x ≤ 1000000) : Ev (fun k => spec_voText.f k (q : Int) l) (textC (q : Int) l) := by
  unfold spec_voText.f
  have hsq := numT_size (q : Int) (by omega) (by omega)
  refine Ev.bind (spec_l1Num.ev q hq) (Ev.pos (by omega) ?_)
  have hpre : (numT (q : Int) ++ (⟨#[58]⟩ : ByteArray)).size ≤ 30 := by rw [ByteArray.size_append]; show (numT (q : Int)).size + 1 ≤ 30; omega
  show Ev _ ((numT (q : Int) ++ (⟨#[58]⟩ : ByteArray)) ++ joinT (l.map numT))
  generalize numT (q : Int) ++ (⟨#[58]⟩ : ByteArray) = pre at hpre ⊢
  have hpart : ∀ i, (joinT ((l.take i).map numT)).size ≤ 22000 := fun i => txt_size (l.take i) (by rw [List.length_take]; omega) (fun x hm => by have := hx x (List.mem_of_mem_take hm); omega)
  have h := down (P := fun i => Ev (fun k => spec_voText.l0 k (pre ++ joinT ((l.take i).map numT)) l (l.length : Int) (i : Int)) (pre ++ joinT (l.map numT))) l.length ?_ ?_ 0 (Nat.zero_le _)
  · have e : pre ++ joinT ((l.take 0).map numT) = pre := by
      apply bytes_eq
      rw [bytes_app]
      simp [joinT, Lib.join_nil]
    rw [e] at h
    exact h
  · refine Ev.step (fun k => by rw [spec_voText.l0]) ?_
    rw [List.take_length]
    exact Ev.neg (by omega) (Ev.now _)
  · intro i hi ih
    have hxi := hx _ (List.getElem_mem hi)
    obtain ⟨n, hn⟩ := Int.eq_ofNat_of_zero_le hxi.1
    have hnum : Ev (fun k => spec_l1Num.f k l[i]) (numT l[i]) := by rw [hn]; exact spec_l1Num.ev n (by omega)
    have hns := numT_size l[i] (by omega) (by omega)
    have hps := hpart i
    have hz : (pre ++ joinT ((l.take i).map numT)).size ≤ 22030 := by rw [ByteArray.size_append]; omega
    rw [List.take_succ_eq_append_getElem hi, List.map_append, List.map_cons, List.map_nil] at ih
    refine Ev.step (fun k => by rw [spec_voText.l0]) ?_
    rw [rd_nat hi, wrap_next hi (by omega)]
    refine Ev.pos (by omega) (Ev.pos (by omega) (Ev.pos (by omega) ?_))
    by_cases h0 : (i : Int) > 0
    · refine Ev.pos h0 (Ev.pos (by omega) (Ev.bind hnum (Ev.pos ?_ ?_)))
      · rw [ByteArray.size_append]
        show (pre ++ joinT ((l.take i).map numT)).size + 1 + (numT l[i]).size ≤ _
        omega
      · rw [joinT_snoc _ _ (by rw [List.length_map, List.length_take]; omega)] at ih
        have e : pre ++ ((joinT ((l.take i).map numT) ++ (⟨#[44]⟩ : ByteArray)) ++ numT l[i]) = (pre ++ joinT ((l.take i).map numT)) ++ (⟨#[44]⟩ : ByteArray) ++ numT l[i] := by
          apply bytes_eq
          simp only [bytes_app, List.append_assoc]
        rw [e] at ih
        exact ih
    · refine Ev.neg h0 (Ev.bind hnum (Ev.pos (by omega) ?_))
      have hi0 : i = 0 := by omega
      subst hi0
      have e : pre ++ joinT ((l.take 0).map numT ++ [numT l[0]]) = (pre ++ joinT ((l.take 0).map numT)) ++ numT l[0] := by
        apply bytes_eq
        rw [List.take_zero, List.map_nil, List.nil_append, joinT_one]
        simp [bytes_app, joinT, Lib.join_nil]
      rw [e] at ih
      exact ih

theorem spec_CommitteeText.ev (q : Int) (l : List Int) (hn : l.length ≤ 9223372036854775807) : Ev (fun k => spec_CommitteeText.f k q l) (if goodC q l = true then (textC q l, true) else (⟨#[]⟩, false)) := by
  unfold spec_CommitteeText.f
  refine Ev.bind (spec_voGood.ev q l hn) ?_
  cases h : goodC q l with
  | false => exact Ev.neg (by decide) (Ev.now _)
  | true =>
    obtain ⟨h1, h2, h3, h4, h5⟩ := goodC_iff.1 h
    have hs := (sum_le h3).2
    obtain ⟨n, rfl⟩ := Int.eq_ofNat_of_zero_le (show 0 ≤ q by omega)
    exact Ev.pos rfl (Ev.bind (spec_voText.ev n l (by omega) (by omega) (fun x hx => by have := h3 x hx; omega)) (Ev.now _))

theorem laws_toIntS.ev (l : List Int) (hn : l.length ≤ 35184372088832) : Ev (fun k => laws_toIntS.f k l) l := by
  unfold laws_toIntS.f
  refine Ev.pos (by omega) (Ev.pos (by omega) ?_)
  rw [Int.toNat_natCast]
  have h := down (P := fun i => Ev (fun k => laws_toIntS.l0 k l (l.take i ++ List.replicate (l.length - i) 0) (i : Int)) l) l.length ?_ ?_ 0 (Nat.zero_le _)
  · simpa using h
  · refine Ev.step (fun k => by rw [laws_toIntS.l0]) ?_
    exact Ev.neg (by omega) ((Ev.now _).cast (by simp))
  · intro i hi ih
    refine Ev.step (fun k => by rw [laws_toIntS.l0]) ?_
    refine Ev.pos (by omega) (Ev.pos (by omega) (Ev.pos (by simp; omega) ?_))
    rw [rd_nat hi, wrap_next hi (by omega), Int.toNat_natCast]
    have e : (l.take i ++ List.replicate (l.length - i) 0).set i l[i] = l.take (i + 1) ++ List.replicate (l.length - (i + 1)) 0 := by
      rw [List.set_append_right _ _ (by simp; omega), List.length_take, Nat.min_eq_left (by omega), Nat.sub_self]
      obtain ⟨d, hd⟩ : ∃ d, l.length - i = d + 1 := ⟨l.length - i - 1, by omega⟩
      rw [hd, List.replicate_succ, List.set_cons_zero, show l.length - (i + 1) = d by omega, List.take_succ_eq_append_getElem hi, List.append_assoc]
      rfl
    rw [e]
    exact ih

theorem laws_toCommittee.ev (q : Int) (l : List Int) (hn : l.length ≤ 35184372088832) : Ev (fun k => laws_toCommittee.f k q l) (q, l) := by
  unfold laws_toCommittee.f
  exact Ev.bind (laws_toIntS.ev l hn) (Ev.now _)

theorem impl_within.eq (a b c : Int) : impl_within.f a b c = some (inB b c a) := by
  unfold impl_within.f inB
  by_cases h : a ≥ b
  · simp [h]
  · simp [h]

theorem impl_sumOf.ev (l : List Int) (B : Int) (hB : ∀ x ∈ l, 0 ≤ x ∧ x ≤ B) (hn : l.length ≤ 1000000) (hb : B ≤ 1000000000000) : Ev (fun k => impl_sumOf.f k l) l.sum := by
  unfold impl_sumOf.f
  have h := down (P := fun i => Ev (fun k => impl_sumOf.l0 k (l.take i).sum l (l.length : Int) (i : Int)) l.sum) l.length ?_ ?_ 0 (Nat.zero_le _)
  · simpa using h
  · refine Ev.step (fun k => by rw [impl_sumOf.l0]) ?_
    exact Ev.neg (by omega) ((Ev.now _).cast (by simp))
  · intro i hi ih
    refine Ev.step (fun k => by rw [impl_sumOf.l0]) ?_
    refine Ev.pos (by omega) (Ev.pos (by omega) (Ev.pos (by omega) ?_))
    have h1 := take_sum_le hB i (by omega)
    have h2 := hB l[i] (List.getElem_mem hi)
    have h3 : (i : Int) * B ≤ 1000000 * 1000000000000 := by
      have h4 : (i : Int) * B ≤ i * 1000000000000 := Int.mul_le_mul_of_nonneg_left hb (by omega)
      omega
    rw [rd_nat hi, wrap_next hi (by omega), wrap_id (by omega) (by omega), ← sum_take hi]
    exact ih

theorem impl_IsCommittee.ev (q : Int) (l : List Int) (hn : l.length ≤ 9223372036854775807) : Ev (fun k => impl_IsCommittee.f k q l) (goodC q l) := by
  unfold impl_IsCommittee.f
  by_cases h0 : (l.length : Int) ≥ 1
  · refine Ev.pos h0 ?_
    by_cases h1 : (l.length : Int) ≤ 9
    · refine Ev.pos h1 (Ev.one (show impl_areIn.f l 0 1000 = some _ from rfl) ?_)
      have hi : inB 1 9 (l.length : Int) = true := inB_iff.2 ⟨h0, h1⟩
      cases h2 : l.all (inB 0 1000) with
      | false => exact Ev.neg (by decide) ((Ev.now _).cast (by simp [goodC, h2]))
      | true =>
        refine Ev.pos rfl (Ev.bind (impl_sumOf.ev l 1000 (fun x hx => inB_iff.1 (all_mem.1 h2 x hx)) (by omega) (by omega)) (Ev.one (impl_within.eq _ _ _) ((Ev.now _).cast ?_)))
        simp [goodC, h2, hi]
    · refine Ev.neg h1 ((Ev.now _).cast ?_)
      have hi : inB 1 9 (l.length : Int) = false := inB_not.2 (fun h => h1 h.2)
      simp [goodC, hi]
  · refine Ev.neg h0 ((Ev.now _).cast ?_)
    have hi : inB 1 9 (l.length : Int) = false := inB_not.2 (fun h => h0 h.1)
    simp [goodC, hi]

theorem impl_CommitteeText.ev (q : Int) (l : List Int) (hn : l.length ≤ 9223372036854775807) : Ev (fun k => impl_CommitteeText.f k q l) (if goodC q l = true then (textC q l, true) else (⟨#[]⟩, false)) := by
  unfold impl_CommitteeText.f
  refine Ev.bind (impl_IsCommittee.ev q l hn) ?_
  cases h : goodC q l with
  | false => exact Ev.neg (by decide) (Ev.now _)
  | true =>
    obtain ⟨h1, h2, h3, h4, h5⟩ := goodC_iff.1 h
    have hs := (sum_le h3).2
    have ha : (l.all fun x => decide (-1000000 ≤ x ∧ x ≤ 1000000)) = true := List.all_eq_true.2 (fun x hx => decide_eq_true (by have := h3 x hx; omega))
    exact Ev.pos rfl (Ev.pos ⟨h1, by omega, ha, by omega, by omega⟩ (Ev.now _))

theorem laws_eqIntS.ev (l : List Int) (hn : l.length ≤ 9223372036854775807) : Ev (fun k => laws_eqIntS.f k l l) true := by
  unfold laws_eqIntS.f
  refine Ev.pos rfl ?_
  have h := down (P := fun i => Ev (fun k => laws_eqIntS.l0 k l l (i : Int)) true) l.length ?_ ?_ 0 (Nat.zero_le _)
  · exact h
  · refine Ev.step (fun k => by rw [laws_eqIntS.l0]) ?_
    exact Ev.neg (by omega) (Ev.now _)
  · intro i hi ih
    refine Ev.step (fun k => by rw [laws_eqIntS.l0]) ?_
    refine Ev.pos (by omega) (Ev.pos (by omega) (Ev.pos (by omega) (Ev.pos rfl ?_)))
    rw [wrap_next hi hn]
    exact ih

theorem laws_eqCommittee.ev (q : Int) (l : List Int) (hn : l.length ≤ 9223372036854775807) : Ev (fun k => laws_eqCommittee.f k q l q l) true := by
  unfold laws_eqCommittee.f
  exact Ev.pos rfl (Ev.bind (laws_eqIntS.ev l hn) (Ev.pos rfl (Ev.now _)))

end Go.Proofs.YtchcpjmdmohngaaDoor.P
