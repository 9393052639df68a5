/- Plain facts of mine on printed functions: what they answer. No Go, no memory. -/
import Derived.Test.YtchcpjmdmohngaaDoorPx1
import Derived.Test.YtchcpjmdmohngaaDoorEv
import Derived.Test.YtchcpjmdmohngaaDoorText
import Derived.Test.YtchcpjmdmohngaaDoorText
import Derived.Test.YtchcpjmdmohngaaDoorText
import Derived.Test.YtchcpjmdmohngaaDoorParse
import Derived.Test.YtchcpjmdmohngaaDoorText
import Derived.Test.YtchcpjmdmohngaaDoorParse
import Derived.Test.YtchcpjmdmohngaaDoorText
import Derived.Test.YtchcpjmdmohngaaDoorParse
namespace Go.Proofs.YtchcpjmdmohngaaDoor.P
open Go.RowKit Go.Proofs.YtchcpjmdmohngaaDoorW.PrintWords Go.Proofs.YtchcpjmdmohngaaDoorW.PrintLast Go.Proofs.YtchcpjmdmohngaaDoorW.PrintMore
set_option linter.unusedVariables false
set_option linter.unusedSimpArgs false

theorem laws_eqIntS.ev (l : List Int) (hn : l.length ≤ 9223372036854775807) : Ev (fun k => laws_eqIntS.f k l l) true := by
  unfold laws_eqIntS.f
  refine Ev.pos rfl ?_
  have h := down (P := fun i => Ev (fun k => laws_eqIntS.l0 k l l (i : Int)) true) l.length ?_ ?_ 0 (Nat.zero_le _)
  · exact h
  · refine Ev.step (fun k => by rw [laws_eqIntS.l0]) ?_
    exact Ev.neg (by omega) (Ev.now _)
  · intro i hi ih
    refine Ev.step (fun k => by rw [laws_eqIntS.l0]) ?_
    refine Ev.pos (by omega) (Ev.pos (by omega) (Ev.pos (by omega) (Ev.pos rfl ?_)))
    rw [wrap_next hi hn]
    exact ih

theorem laws_eqCommittee.ev (q : Int) (l : List Int) (hn : l.length ≤ 9223372036854775807) : Ev (fun k => laws_eqCommittee.f k q l q l) true := by
  unfold laws_eqCommittee.f
  exact Ev.pos rfl (Ev.bind (laws_eqIntS.ev l hn) (Ev.pos rfl (Ev.now _)))

theorem spec_l1In.eq (a b c : Int) : spec_l1In.f a b c = some (inB b c a) := by
  unfold spec_l1In.f inB
  by_cases h : a ≥ b
  · simp [h]
  · simp [h]

theorem spec_l1All.ev (l : List Int) (a b : Int) (hn : l.length ≤ 9223372036854775807) : Ev (fun k => spec_l1All.f k l a b) (l.all (inB a b)) := by
  unfold spec_l1All.f
  have h := down (P := fun i => Ev (fun k => spec_l1All.l0 k a b l (l.length : Int) (i : Int)) ((l.drop i).all (inB a b))) l.length ?_ ?_ 0 (Nat.zero_le _)
  · simpa using h
  · refine Ev.step (fun k => by rw [spec_l1All.l0]) ?_
    exact Ev.neg (by omega) ((Ev.now _).cast (by simp))
  · intro i hi ih
    refine Ev.step (fun k => by rw [spec_l1All.l0]) ?_
    refine Ev.pos (by omega) (Ev.pos (by omega) (Ev.pos (by omega) ?_))
    refine Ev.one (spec_l1In.eq _ _ _) ?_
    rw [rd_nat hi, wrap_next hi hn]
    cases hq : inB a b l[i] with
    | true => exact Ev.pos rfl (ih.cast (by rw [drop_all _ _ _ hi, hq, Bool.true_and]))
    | false => exact Ev.neg (by decide) ((Ev.now _).cast (by rw [drop_all _ _ _ hi, hq, Bool.false_and]))

theorem spec_voSum.ev (l : List Int) (B : Int) (hB : ∀ x ∈ l, 0 ≤ x ∧ x ≤ B) (hn : l.length ≤ 1000000) (hb : B ≤ 1000000000000) : Ev (fun k => spec_voSum.f k l) l.sum := by
  unfold spec_voSum.f
  have h := down (P := fun i => Ev (fun k => spec_voSum.l0 k (l.take i).sum l (l.length : Int) (i : Int)) l.sum) l.length ?_ ?_ 0 (Nat.zero_le _)
  · simpa using h
  · refine Ev.step (fun k => by rw [spec_voSum.l0]) ?_
    exact Ev.neg (by omega) ((Ev.now _).cast (by simp))
  · intro i hi ih
    refine Ev.step (fun k => by rw [spec_voSum.l0]) ?_
    refine Ev.pos (by omega) (Ev.pos (by omega) (Ev.pos (by omega) ?_))
    have h1 := take_sum_le hB i (by omega)
    have h2 := hB l[i] (List.getElem_mem hi)
    have h3 : (i : Int) * B ≤ 1000000 * 1000000000000 := by
      have h4 : (i : Int) * B ≤ i * 1000000000000 := Int.mul_le_mul_of_nonneg_left hb (by omega)
      omega
    rw [rd_nat hi, wrap_next hi (by omega), wrap_id (by omega) (by omega), ← sum_take hi]
    exact ih

theorem spec_voGood.ev (q : Int) (l : List Int) (hn : l.length ≤ 9223372036854775807) : Ev (fun k => spec_voGood.f k q l) (goodC q l) := by
  unfold spec_voGood.f
  refine Ev.one (spec_l1In.eq _ _ _) ?_
  have hj : ∀ b : Bool, (b = false → l.length ≤ 9 ∧ l.all (inB 0 1000) = true) → Ev (fun k => spec_voGood.j0 k b q l) (!b && inB 1 l.sum q) := by
    intro b hb
    refine Ev.step (fun k => by rw [spec_voGood.j0]) ?_
    cases b with
    | true => exact Ev.pos rfl (Ev.now _)
    | false =>
      obtain ⟨h1, h2⟩ := hb rfl
      refine Ev.neg (by decide) (Ev.bind (spec_voSum.ev l 1000 (fun x hx => inB_iff.1 (all_mem.1 h2 x hx)) (by omega) (by omega)) (Ev.one (spec_l1In.eq _ _ _) ((Ev.now _).cast (by simp))))
  cases h1 : inB 1 9 (l.length : Int) with
  | false => exact Ev.neg (by decide) ((hj true (by simp)).cast (by simp [goodC, h1]))
  | true =>
    refine Ev.pos rfl (Ev.bind (spec_l1All.ev l 0 1000 hn) ((hj _ ?_).cast ?_))
    · intro h2
      have := inB_iff.1 h1
      exact ⟨by omega, by simpa using h2⟩
    · simp [goodC, h1]

-- NEEDS Text
theorem spec_l1Num.ev : ∀ n : Nat, n ≤ 1000000 → Ev (fun k => spec_l1Num.f k (n : Int)) (numT (n : Int)) := by
  intro n
  induction n using Nat.strongRecOn with
  | _ n ih =>
    intro hn
    refine Ev.step (fun k => by rw [spec_l1Num.f]) ?_
    by_cases h : n < 10
    · refine Ev.pos (by omega) ((Ev.now _).cast ?_)
      have e : (wrap64 (48 + (n : Int))) % 256 = ((48 + n : Nat) : Int) := by rw [wrap_id (by omega) (by omega)]; omega
      rw [e, numT_nat, Lib.decDigits_one h]
      rfl
    · refine Ev.neg (by omega) ?_
      have e1 : wrap64 (Int.tdiv (n : Int) 10) = ((n / 10 : Nat) : Int) := by
        have e2 : Int.tdiv (n : Int) 10 = ((n / 10 : Nat) : Int) := (Int.ofNat_tdiv n 10).symm
        rw [e2, wrap_id (by omega) (by omega)]
      have e3 : (wrap64 (48 + (Int.tmod (n : Int) 10))) % 256 = ((48 + n % 10 : Nat) : Int) := by
        have e2 : Int.tmod (n : Int) 10 = ((n % 10 : Nat) : Int) := (Int.ofNat_tmod n 10).symm
        rw [e2, wrap_id (by omega) (by omega)]
        omega
      have hsz := numT_size ((n / 10 : Nat) : Int) (by omega) (by omega)
      rw [e1, e3]
      have hs1 : (strOfNums [((48 + n % 10 : Nat) : Int)]).size = 1 := rfl
      refine Ev.bind (ih (n / 10) (by omega) (by omega)) (Ev.one rfl (Ev.pos (by rw [hs1]; omega) ((Ev.now _).cast ?_)))
      apply bytes_eq
      rw [bytes_app, numT_nat, numT_nat, Lib.decDigits.eq_def n, dif_neg h]
      show Lib.decDigits (n / 10) ++ [UInt8.ofNat (((48 + n % 10 : Nat) : Int)).toNat] = Lib.decDigits (n / 10) ++ [UInt8.ofNat (48 + n % 10)]
      rw [Int.toNat_natCast]

-- NEEDS Text
theorem spec_voText.ev (q : Nat) (l : List Int) (hq : q ≤ 1000000) (h9 : l.length ≤ 1000) (hx : ∀ x ∈ l, 0 ≤ x ∧ x ≤ 1000000) : Ev (fun k => spec_voText.f k (q : Int) l) (textC (q : Int) l) := by
  unfold spec_voText.f
  have hsq := numT_size (q : Int) (by omega) (by omega)
  refine Ev.bind (spec_l1Num.ev q hq) (Ev.pos (by omega) ?_)
  have hpre : (numT (q : Int) ++ (⟨#[58]⟩ : ByteArray)).size ≤ 30 := by rw [ByteArray.size_append]; show (numT (q : Int)).size + 1 ≤ 30; omega
  show Ev _ ((numT (q : Int) ++ (⟨#[58]⟩ : ByteArray)) ++ joinT (l.map numT))
  generalize numT (q : Int) ++ (⟨#[58]⟩ : ByteArray) = pre at hpre ⊢
  have hpart : ∀ i, (joinT ((l.take i).map numT)).size ≤ 22000 := fun i => txt_size (l.take i) (by rw [List.length_take]; omega) (fun x hm => by have := hx x (List.mem_of_mem_take hm); omega)
  have h := down (P := fun i => Ev (fun k => spec_voText.l0 k (pre ++ joinT ((l.take i).map numT)) l (l.length : Int) (i : Int)) (pre ++ joinT (l.map numT))) l.length ?_ ?_ 0 (Nat.zero_le _)
  · have e : pre ++ joinT ((l.take 0).map numT) = pre := by
      apply bytes_eq
      rw [bytes_app]
      simp [joinT, Lib.join_nil]
    rw [e] at h
    exact h
  · refine Ev.step (fun k => by rw [spec_voText.l0]) ?_
    rw [List.take_length]
    exact Ev.neg (by omega) (Ev.now _)
  · intro i hi ih
    have hxi := hx _ (List.getElem_mem hi)
    obtain ⟨n, hn⟩ := Int.eq_ofNat_of_zero_le hxi.1
    have hnum : Ev (fun k => spec_l1Num.f k l[i]) (numT l[i]) := by rw [hn]; exact spec_l1Num.ev n (by omega)
    have hns := numT_size l[i] (by omega) (by omega)
    have hps := hpart i
    have hz : (pre ++ joinT ((l.take i).map numT)).size ≤ 22030 := by rw [ByteArray.size_append]; omega
    rw [List.take_succ_eq_append_getElem hi, List.map_append, List.map_cons, List.map_nil] at ih
    refine Ev.step (fun k => by rw [spec_voText.l0]) ?_
    rw [rd_nat hi, wrap_next hi (by omega)]
    refine Ev.pos (by omega) (Ev.pos (by omega) (Ev.pos (by omega) ?_))
    by_cases h0 : (i : Int) > 0
    · refine Ev.pos h0 (Ev.pos (by omega) (Ev.bind hnum (Ev.pos ?_ ?_)))
      · rw [ByteArray.size_append]
        show (pre ++ joinT ((l.take i).map numT)).size + 1 + (numT l[i]).size ≤ _
        omega
      · rw [joinT_snoc _ _ (by rw [List.length_map, List.length_take]; omega)] at ih
        have e : pre ++ ((joinT ((l.take i).map numT) ++ (⟨#[44]⟩ : ByteArray)) ++ numT l[i]) = (pre ++ joinT ((l.take i).map numT)) ++ (⟨#[44]⟩ : ByteArray) ++ numT l[i] := by
          apply bytes_eq
          simp only [bytes_app, List.append_assoc]
        rw [e] at ih
        exact ih
    · refine Ev.neg h0 (Ev.bind hnum (Ev.pos (by omega) ?_))
      have hi0 : i = 0 := by omega
      subst hi0
      have e : pre ++ joinT ((l.take 0).map numT ++ [numT l[0]]) = (pre ++ joinT ((l.take 0).map numT)) ++ numT l[0] := by
        apply bytes_eq
        rw [List.take_zero, List.map_nil, List.nil_append, joinT_one]
        simp [bytes_app, joinT, Lib.join_nil]
      rw [e] at ih
      exact ih

-- NEEDS Text
-- NEEDS Parse
theorem bt_some {s : ByteArray} {i : Nat} (h : i < s.size) : ∃ x, s.data.toList[i]? = some x ∧ bt s (i : Int) = ((x.toNat : Nat) : Int) := by
  have h2 : i < s.data.size := h
  refine ⟨s.data[i], by simp [h2], ?_⟩
  unfold bt
  rw [dif_pos (show ((i : Int)).toNat < s.size by rw [Int.toNat_natCast]; exact h)]
  rfl
theorem extract_mk (s : ByteArray) (a b : Nat) : s.extract a b = mkB ((s.data.toList.drop a).take (b - a)) := by
  apply bytes_eq
  rw [Lib.extract_data]
  rfl
theorem spec_l1Split.ev (c : UInt8) (s : ByteArray) (hs : s.size ≤ 4000000000) : Ev (fun k => spec_l1Split.f k s ((c.toNat : Nat) : Int)) ((spA c [] s.data.toList).map mkB) := by
  unfold spec_l1Split.f
  have hl : s.data.toList.length = s.size := (Lib.size_eq s).symm
  have h := down (P := fun i => ∀ (out : List ByteArray) (fr : Nat), fr ≤ i → out.length ≤ i → Ev (fun k => spec_l1Split.l0 k s ((c.toNat : Nat) : Int) out (fr : Int) (i : Int)) (out ++ (spA c ((s.data.toList.drop fr).take (i - fr)) (s.data.toList.drop i)).map mkB)) s.size ?_ ?_ 0 (Nat.zero_le _)
  · have h2 := h [] 0 (Nat.le_refl _) (Nat.zero_le _)
    simpa using h2
  · intro out fr h1 h2
    refine Ev.step (fun k => by rw [spec_l1Split.l0]) ?_
    refine Ev.neg (by omega) (Ev.pos (by omega) (Ev.pos (by omega) (Ev.pos (by omega) ((Ev.now _).cast ?_))))
    rw [List.drop_of_length_le (show s.data.toList.length ≤ s.size by omega), Int.toNat_natCast, extract_mk]
    rfl
  · intro i hi ih out fr h1 h2
    obtain ⟨x, hx, hb⟩ := bt_some hi
    obtain ⟨hxl, hxe⟩ := List.getElem?_eq_some_iff.1 hx
    have hd : s.data.toList.drop i = x :: s.data.toList.drop (i + 1) := by rw [List.drop_eq_getElem_cons hxl, hxe]
    refine Ev.step (fun k => by rw [spec_l1Split.l0]) ?_
    refine Ev.pos (by omega) (Ev.pos (by omega) ?_)
    rw [hb, wrap_next hi (by omega), hd]
    by_cases hc : x = c
    · subst hc
      refine Ev.pos rfl (Ev.pos (by omega) (Ev.pos (by omega) (Ev.pos (by omega) (Ev.pos (by omega) ?_))))
      have ih2 := ih (out ++ [s.extract ((fr : Int)).toNat ((i : Int)).toNat]) (i + 1) (Nat.le_refl _) (by rw [List.length_append, List.length_singleton]; omega)
      refine ih2.cast ?_
      rw [spA, if_pos rfl, Nat.sub_self, List.take_zero, Int.toNat_natCast, Int.toNat_natCast, extract_mk, List.append_assoc]
      rfl
    · refine Ev.neg (fun e => hc (UInt8.toNat_inj.1 (by omega))) ?_
      have ih2 := ih out fr (by omega) (by omega)
      refine ih2.cast ?_
      have e : (s.data.toList.drop fr).take (i + 1 - fr) = (s.data.toList.drop fr).take (i - fr) ++ [x] := by
        have h3 : i + 1 - fr = (i - fr) + 1 := by omega
        have h4 : (s.data.toList.drop fr)[i - fr]? = some x := by rw [List.getElem?_drop, show fr + (i - fr) = i by omega]; exact hx
        rw [h3, List.take_add_one, h4]
        rfl
      rw [spA, if_neg hc, e]

-- NEEDS Text
-- NEEDS Parse
theorem spec_l1Read.some_ (p : ByteArray) (hp : p.size ≤ 4000000000) : ∃ r, Ev (fun k => spec_l1Read.f k p) r := by
  unfold spec_l1Read.f
  have hloop : ∀ x3, ∃ r, Ev (fun k => spec_l1Read.l0 k p x3 0) r := by
    have h := down (P := fun i => ∀ x3, ∃ r, Ev (fun k => spec_l1Read.l0 k p x3 (i : Int)) r) p.size ?_ ?_ 0 (Nat.zero_le _)
    · exact h
    · intro x3
      exact ⟨_, Ev.step (fun k => by rw [spec_l1Read.l0]) (Ev.neg (by omega) (Ev.now x3))⟩
    · intro i hi ih x3
      by_cases h1 : bt p (i : Int) < 48
      · exact ⟨-1, Ev.step (fun k => by rw [spec_l1Read.l0]) (Ev.pos (by omega) (Ev.pos (by omega) (Ev.pos h1 (Ev.now _))))⟩
      · by_cases h2 : bt p (i : Int) > 57
        · exact ⟨-1, Ev.step (fun k => by rw [spec_l1Read.l0]) (Ev.pos (by omega) (Ev.pos (by omega) (Ev.neg h1 (Ev.pos h2 (Ev.now _)))))⟩
        · obtain ⟨r, hr⟩ := ih (wrap64 ((wrap64 (10 * x3)) + (((bt p (i : Int)) - 48) % 256)))
          exact ⟨r, Ev.step (fun k => by rw [spec_l1Read.l0, wrap_next hi (by omega)]) (Ev.pos (by omega) (Ev.pos (by omega) (Ev.neg h1 (Ev.neg h2 hr))))⟩
  have hj : ∀ b, ∃ r, Ev (fun k => spec_l1Read.j0 k p b) r := by
    intro b
    cases b with
    | true => exact ⟨-1, Ev.step (fun k => by rw [spec_l1Read.j0]) (Ev.pos rfl (Ev.now _))⟩
    | false =>
      obtain ⟨r, hr⟩ := hloop 0
      exact ⟨r, Ev.step (fun k => by rw [spec_l1Read.j0]) (Ev.neg (by decide) hr)⟩
  cases hb : inB 1 6 (p.size : Int) with
  | false =>
    obtain ⟨r, hr⟩ := hj true
    exact ⟨r, Ev.one (by rw [spec_l1In.eq, hb]) (Ev.neg (by decide) hr)⟩
  | true =>
    have hb2 := inB_iff.1 hb
    by_cases h0 : bt p 0 = 48
    · obtain ⟨r, hr⟩ := hj (decide ((p.size : Int) > 1))
      exact ⟨r, Ev.one (by rw [spec_l1In.eq, hb]) (Ev.pos rfl (Ev.pos (by omega) (Ev.pos h0 hr)))⟩
    · obtain ⟨r, hr⟩ := hj false
      exact ⟨r, Ev.one (by rw [spec_l1In.eq, hb]) (Ev.pos rfl (Ev.pos (by omega) (Ev.neg h0 hr)))⟩
theorem spec_l1Read.num (n : Nat) (hn : n ≤ 99999) : Ev (fun k => spec_l1Read.f k (numT (n : Int))) (n : Int) := by
  unfold spec_l1Read.f
  obtain ⟨h1, h2, h3, h4, h5⟩ := dec_all n
  have hlen := h4 5 (by omega) (by omega)
  have hD : (numT (n : Int)).data.toList = Lib.decDigits n := by rw [numT_nat]
  have hsz : (numT (n : Int)).size = (Lib.decDigits n).length := by rw [Lib.size_eq, hD]
  have hbt : ∀ i, i < (numT (n : Int)).size → ∃ x, (Lib.decDigits n)[i]? = some x ∧ bt (numT (n : Int)) (i : Int) = ((x.toNat : Nat) : Int) := fun i hi => by
    obtain ⟨x, hx, hb⟩ := bt_some hi
    exact ⟨x, by rw [← hD]; exact hx, hb⟩
  generalize numT (n : Int) = p at hsz hbt ⊢
  generalize Lib.decDigits n = D at *
  have hval : ∀ i, i ≤ D.length → valD (D.take i) ≤ n := by
    intro i hi
    have e : D = D.take i ++ D.drop i := (List.take_append_drop i D).symm
    have hg := fold_ge (D.drop i) (valD (D.take i))
    have e2 : valD D = (D.drop i).foldl stepD (valD (D.take i)) := by
      conv => lhs; rw [e]
      unfold valD
      rw [List.foldl_append]
    omega
  have hloop : Ev (fun k => spec_l1Read.l0 k p 0 0) (n : Int) := by
    have h := down (P := fun i => Ev (fun k => spec_l1Read.l0 k p ((valD (D.take i) : Nat) : Int) (i : Int)) (n : Int)) p.size ?_ ?_ 0 (Nat.zero_le _)
    · exact h
    · refine Ev.step (fun k => by rw [spec_l1Read.l0]) (Ev.neg (by omega) ((Ev.now _).cast ?_))
      rw [List.take_of_length_le (by omega), h2]
    · intro i hi ih
      obtain ⟨x, hx, hb⟩ := hbt i hi
      have hxd : 48 ≤ x.toNat ∧ x.toNat ≤ 57 := h1 x (List.mem_of_getElem? hx)
      have hv := hval i (by omega)
      have ht : D.take (i + 1) = D.take i ++ [x] := by rw [List.take_add_one, hx]; rfl
      rw [ht, valD_snoc] at ih
      refine Ev.step (fun k => by rw [spec_l1Read.l0]) ?_
      rw [hb, wrap_next hi (by omega)]
      refine Ev.pos (by omega) (Ev.pos (by omega) (Ev.neg (by omega) (Ev.neg (by omega) ?_)))
      have e : wrap64 ((wrap64 (10 * ((valD (D.take i) : Nat) : Int))) + (((x.toNat : Nat) : Int) - 48) % 256) = ((10 * valD (D.take i) + (x.toNat - 48) : Nat) : Int) := by
        rw [wrap_id (x := 10 * ((valD (D.take i) : Nat) : Int)) (by omega) (by omega), wrap_id (by omega) (by omega)]
        omega
      rw [e]
      exact ih
  have hin : spec_l1In.f (p.size : Int) 1 6 = some true := by rw [spec_l1In.eq, inB_iff.2 (by omega)]
  refine Ev.one hin (Ev.pos rfl (Ev.pos (by omega) ?_))
  obtain ⟨x, hx, hb⟩ := hbt 0 (by omega)
  have hb0 : bt p 0 = ((x.toNat : Nat) : Int) := hb
  by_cases h0 : x.toNat = 48
  · have hn10 : n < 10 := by
      rcases Nat.lt_or_ge n 10 with h | h
      · exact h
      · exact absurd h0 (h5 h x hx)
    have hl1 := h4 1 (Nat.le_refl _) hn10
    refine Ev.pos (by omega) ?_
    rw [decide_eq_false (show ¬ (p.size : Int) > 1 by omega)]
    exact Ev.step (fun k => by rw [spec_l1Read.j0]) (Ev.neg (by decide) hloop)
  · refine Ev.neg (by omega) ?_
    exact Ev.step (fun k => by rw [spec_l1Read.j0]) (Ev.neg (by decide) hloop)

-- NEEDS Text
-- NEEDS Parse
theorem spec_voParse.some_ (s : ByteArray) (hs : s.size ≤ 4000000000) : ∃ c0 cl ok, Ev (fun k => spec_voParse.f k s) (c0, cl, ok) ∧ (ok = true → goodC c0 cl = true ∧ textC c0 cl = s) := by
  have h58 : Ev (fun k => spec_l1Split.f k s 58) ((spA 58 [] s.data.toList).map mkB) := spec_l1Split.ev 58 s hs
  have hsz := spA_size 58 s.data.toList []
  rw [List.length_nil, Nat.zero_add, ← Lib.size_eq] at hsz
  generalize spA 58 [] s.data.toList = t at h58 hsz
  have hall : ∀ p ∈ t.map mkB, p.size ≤ s.size := fun p hp => by
    obtain ⟨x, hx, rfl⟩ := List.mem_map.1 hp
    have := hsz x hx
    rw [Lib.size_eq]
    exact this
  generalize t.map mkB = ps at h58 hall
  unfold spec_voParse.f
  have hbad : ∃ c0 cl ok, Ev (fun k => spec_voParse.j0 k s ps true) (c0, cl, ok) ∧ (ok = true → goodC c0 cl = true ∧ textC c0 cl = s) := ⟨0, [], false, (by refine Ev.step (fun k => by rw [spec_voParse.j0]) ?_; exact Ev.pos rfl (Ev.now _)), fun h => by cases h⟩
  by_cases h60 : (s.size : Int) > 60
  · obtain ⟨c0, cl, ok, he, ho⟩ := hbad
    exact ⟨c0, cl, ok, Ev.bind h58 (Ev.pos h60 he), ho⟩
  · by_cases h2 : ps.length = 2
    · have hne : ((ps.length : Int) != 2) = false := by rw [h2]; rfl
      match ps, h2 with
      | [p0, p1], _ =>
        obtain ⟨r0, hr0⟩ := spec_l1Read.some_ p0 (Nat.le_trans (hall p0 (by simp)) hs)
        have hp1 : p1.size ≤ 4000000000 := Nat.le_trans (hall p1 (by simp)) hs
        have h44 : Ev (fun k => spec_l1Split.f k p1 44) ((spA 44 [] p1.data.toList).map mkB) := spec_l1Split.ev 44 p1 hp1
        have hsz1 := spA_size 44 p1.data.toList []
        have hln1 := spA_len 44 p1.data.toList []
        rw [List.length_nil, Nat.zero_add, ← Lib.size_eq] at hsz1
        rw [← Lib.size_eq] at hln1
        generalize spA 44 [] p1.data.toList = t1 at h44 hsz1 hln1
        have hall1 : ∀ p ∈ t1.map mkB, p.size ≤ 4000000000 := fun p hp => by
          obtain ⟨x, hx, rfl⟩ := List.mem_map.1 hp
          have := hsz1 x hx
          rw [Lib.size_eq]
          exact Nat.le_trans this hp1
        have hlen1 : (t1.map mkB).length ≤ 4000000001 := by rw [List.length_map]; omega
        generalize t1.map mkB = qs at h44 hall1 hlen1
        have hloop := down (P := fun i => ∀ acc : List Int, acc.length ≤ i → ∃ cl ok, Ev (fun k => spec_voParse.l0 k s qs (qs.length : Int) (i : Int) r0 acc) (r0, cl, ok) ∧ (ok = true → goodC r0 cl = true ∧ textC r0 cl = s)) qs.length ?_ ?_ 0 (Nat.zero_le _)
        · obtain ⟨cl, ok, he, ho⟩ := hloop [] (Nat.zero_le _)
          refine ⟨r0, cl, ok, Ev.bind h58 (Ev.neg h60 ?_), ho⟩
          rw [hne]
          refine Ev.step (fun k => by rw [spec_voParse.j0]) ?_
          refine Ev.neg (by decide) (Ev.pos (by simp) (Ev.bind hr0 (Ev.pos (by simp) (Ev.bind h44 he))))
        · intro acc hacc
          have hg := spec_voGood.ev r0 acc (by omega)
          cases hgc : goodC r0 acc with
          | false =>
            rw [hgc] at hg
            exact ⟨acc, false, (by refine Ev.step (fun k => by rw [spec_voParse.l0]) ?_; exact Ev.neg (by omega) (Ev.bind hg (Ev.neg (by decide) (Ev.now _)))), fun h => by cases h⟩
          | true =>
            rw [hgc] at hg
            obtain ⟨g1, g2, g3, g4, g5⟩ := goodC_iff.1 hgc
            have hsum := (sum_le g3).2
            obtain ⟨n, hn⟩ := Int.eq_ofNat_of_zero_le (show 0 ≤ r0 by omega)
            have ht : Ev (fun k => spec_voText.f k r0 acc) (textC r0 acc) := by
              rw [hn]
              exact spec_voText.ev n acc (by omega) (by omega) (fun x hx => by have := g3 x hx; omega)
            refine ⟨acc, ((textC r0 acc).toList == s.toList), (by refine Ev.step (fun k => by rw [spec_voParse.l0]) ?_; exact Ev.neg (by omega) (Ev.bind hg (Ev.pos rfl (Ev.bind ht (Ev.now _))))), fun h => ⟨hgc, inj_toList (beq_iff_eq.1 h)⟩⟩
        · intro i hi ih acc hacc
          obtain ⟨r, hr⟩ := spec_l1Read.some_ qs[i] (hall1 _ (List.getElem_mem hi))
          obtain ⟨cl, ok, he, ho⟩ := ih (acc ++ [r]) (by rw [List.length_append, List.length_singleton]; omega)
          refine ⟨cl, ok, (by refine Ev.step (fun k => by rw [spec_voParse.l0, rdOf_nat hi, wrap_next hi (by omega)]) ?_; exact Ev.pos (by omega) (Ev.pos (by omega) (Ev.pos (by omega) (Ev.bind hr (Ev.pos (by omega) he))))), ho⟩
    · have hne : ((ps.length : Int) != 2) = true := by
        rw [bne_iff_ne]
        omega
      obtain ⟨c0, cl, ok, he, ho⟩ := hbad
      exact ⟨c0, cl, ok, Ev.bind h58 (Ev.neg h60 (by rw [hne]; exact he)), ho⟩
theorem textC_size {q : Int} {l : List Int} (h : goodC q l = true) : (textC q l).size ≤ 60 := by
  obtain ⟨g1, g2, g3, g4, g5⟩ := goodC_iff.1 h
  have hsum := (sum_le g3).2
  have hx : ∀ x ∈ l, 0 ≤ x := fun x hm => (g3 x hm).1
  rw [Lib.size_eq, textC_data (by omega) l hx]
  have h1 := (dec_all q.toNat).2.2.2.1 4 (by omega) (by omega)
  have h2 := joinT_len (l.map numT) 4 (fun y hy => by
    obtain ⟨x, hm, rfl⟩ := List.mem_map.1 hy
    have := g3 x hm
    rw [Lib.size_eq, numT_data (by omega)]
    exact (dec_all x.toNat).2.2.2.1 4 (by omega) (by omega))
  rw [digsL_eq l hx, List.length_map] at h2
  rw [List.length_append, List.length_cons]
  omega
theorem spec_voParse.on (q : Int) (l : List Int) (h : goodC q l = true) : Ev (fun k => spec_voParse.f k (textC q l)) (q, l, true) := by
  obtain ⟨g1, g2, g3, g4, g5⟩ := goodC_iff.1 h
  have hsum := (sum_le g3).2
  have hx : ∀ x ∈ l, 0 ≤ x := fun x hm => (g3 x hm).1
  have h60 := textC_size h
  have h58 : Ev (fun k => spec_l1Split.f k (textC q l) 58) ((spA 58 [] (textC q l).data.toList).map mkB) := spec_l1Split.ev 58 _ (by omega)
  have hcom : (58 : UInt8) ∉ Lib.join (digsL l) [44] := fun hm => by
    rcases mem_join 44 _ _ hm with h | ⟨p, hp, hm⟩
    · exact absurd h (by decide)
    · obtain ⟨x, _, rfl⟩ := List.mem_map.1 hp
      exact dec_free (by decide) _ hm
  have hsp : spA 58 [] (textC q l).data.toList = [Lib.decDigits q.toNat, Lib.join (digsL l) [44]] := by
    have e := spA_of 58 [Lib.join (digsL l) [44]] (Lib.decDigits q.toNat) (fun x hm => by
      rcases List.mem_cons.1 hm with rfl | hm
      · exact dec_free (by decide) _
      · rw [List.mem_singleton] at hm
        rw [hm]
        exact hcom)
    rw [join_cons2 _ _ _ (by simp), Lib.join_one] at e
    rw [textC_data (by omega) l hx]
    exact e
  rw [hsp] at h58
  have hq0 : mkB (Lib.decDigits q.toNat) = numT q := bytes_eq (by rw [mkB_data, numT_data (by omega)])
  have ht0 : mkB (Lib.join (digsL l) [44]) = impl_numbersText.txt l := bytes_eq (by rw [mkB_data, txt_data l hx])
  rw [List.map_cons, List.map_cons, List.map_nil, hq0, ht0] at h58
  obtain ⟨n, hn⟩ := Int.eq_ofNat_of_zero_le (show 0 ≤ q by omega)
  have hr0 : Ev (fun k => spec_l1Read.f k (numT q)) q := by rw [hn]; exact spec_l1Read.num n (by omega)
  have hts := txt_size l (by omega) (fun x hm => by have := g3 x hm; omega)
  have h44 : Ev (fun k => spec_l1Split.f k (impl_numbersText.txt l) 44) ((spA 44 [] (impl_numbersText.txt l).data.toList).map mkB) := spec_l1Split.ev 44 _ (by omega)
  have hsp2 : (spA 44 [] (impl_numbersText.txt l).data.toList).map mkB = l.map numT := by
    rw [txt_data l hx]
    have e : spA 44 [] (Lib.join (digsL l) [44]) = digsL l := by
      cases hd : digsL l with
      | nil =>
        have := congrArg List.length hd
        simp [digsL] at this
        rw [this] at g1
        simp at g1
      | cons p r =>
        refine spA_of 44 r p (fun x hm => ?_)
        rw [← hd] at hm
        obtain ⟨y, _, rfl⟩ := List.mem_map.1 hm
        exact dec_free (by decide) _
    rw [e]
    unfold digsL
    rw [List.map_map]
    exact List.map_congr_left (fun x hm => bytes_eq (by show Lib.decDigits x.toNat = _; rw [numT_data (hx x hm)]))
  rw [hsp2] at h44
  have ht : Ev (fun k => spec_voText.f k q l) (textC q l) := by
    rw [hn]
    exact spec_voText.ev n l (by omega) (by omega) (fun x hm => by have := g3 x hm; omega)
  have hg := spec_voGood.ev q l (by omega)
  rw [h] at hg
  generalize textC q l = s at h58 h60 ht ⊢
  generalize impl_numbersText.txt l = b at h58 h44
  generalize numT q = a at h58 hr0
  have hln : (l.map numT).length = l.length := List.length_map _
  have hloop := down (P := fun i => Ev (fun k => spec_voParse.l0 k s (l.map numT) ((l.map numT).length : Int) (i : Int) q (l.take i)) (q, l, true)) l.length ?_ ?_ 0 (Nat.zero_le _)
  · unfold spec_voParse.f
    refine Ev.bind h58 (Ev.neg (by omega) ?_)
    refine Ev.step (fun k => by rw [spec_voParse.j0]) ?_
    refine Ev.neg (by simp) (Ev.pos (by simp) (Ev.bind hr0 (Ev.pos (by simp) (Ev.bind h44 hloop))))
  · refine Ev.step (fun k => by rw [spec_voParse.l0]) ?_
    refine Ev.neg (by omega) ?_
    rw [List.take_length]
    exact Ev.bind hg (Ev.pos rfl (Ev.bind ht ((Ev.now _).cast (by simp))))
  · intro i hi ih
    have hi2 : i < (l.map numT).length := by omega
    have hxi := g3 _ (List.getElem_mem hi)
    obtain ⟨m, hm⟩ := Int.eq_ofNat_of_zero_le hxi.1
    have hri : Ev (fun k => spec_l1Read.f k (l.map numT)[i]) l[i] := by
      rw [List.getElem_map, hm]
      exact spec_l1Read.num m (by omega)
    rw [List.take_succ_eq_append_getElem hi] at ih
    refine Ev.step (fun k => by rw [spec_voParse.l0, rdOf_nat hi2, wrap_next hi (by omega)]) ?_
    refine Ev.pos (by omega) (Ev.pos (by omega) (Ev.pos (by omega) (Ev.bind hri (Ev.pos (by rw [List.length_take]; omega) ih))))

theorem spec_ParseCommittee.on (q : Int) (l : List Int) (h : goodC q l = true) : Ev (fun k => spec_ParseCommittee.f k (textC q l)) (q, l, true) := by
  unfold spec_ParseCommittee.f
  exact Ev.bind (spec_voParse.on q l h) (Ev.pos rfl (Ev.now _))
theorem spec_ParseCommittee.off (s : ByteArray) (hs : s.size ≤ 4000000000) (h : ∀ q l, goodC q l = true → textC q l ≠ s) : Ev (fun k => spec_ParseCommittee.f k s) (0, [], false) := by
  unfold spec_ParseCommittee.f
  obtain ⟨c0, cl, ok, he, ho⟩ := spec_voParse.some_ s hs
  cases ok with
  | true => exact absurd (ho rfl).2 (h c0 cl (ho rfl).1)
  | false => exact Ev.bind he (Ev.neg (show ¬ false = true by decide) (Ev.now _))

theorem impl_within.eq (a b c : Int) : impl_within.f a b c = some (inB b c a) := by
  unfold impl_within.f inB
  by_cases h : a ≥ b
  · simp [h]
  · simp [h]

theorem impl_sumOf.ev (l : List Int) (B : Int) (hB : ∀ x ∈ l, 0 ≤ x ∧ x ≤ B) (hn : l.length ≤ 1000000) (hb : B ≤ 1000000000000) : Ev (fun k => impl_sumOf.f k l) l.sum := by
  unfold impl_sumOf.f
  have h := down (P := fun i => Ev (fun k => impl_sumOf.l0 k (l.take i).sum l (l.length : Int) (i : Int)) l.sum) l.length ?_ ?_ 0 (Nat.zero_le _)
  · simpa using h
  · refine Ev.step (fun k => by rw [impl_sumOf.l0]) ?_
    exact Ev.neg (by omega) ((Ev.now _).cast (by simp))
  · intro i hi ih
    refine Ev.step (fun k => by rw [impl_sumOf.l0]) ?_
    refine Ev.pos (by omega) (Ev.pos (by omega) (Ev.pos (by omega) ?_))
    have h1 := take_sum_le hB i (by omega)
    have h2 := hB l[i] (List.getElem_mem hi)
    have h3 : (i : Int) * B ≤ 1000000 * 1000000000000 := by
      have h4 : (i : Int) * B ≤ i * 1000000000000 := Int.mul_le_mul_of_nonneg_left hb (by omega)
      omega
    rw [rd_nat hi, wrap_next hi (by omega), wrap_id (by omega) (by omega), ← sum_take hi]
    exact ih

end Go.Proofs.YtchcpjmdmohngaaDoor.P
