/- Plain facts of mine on printed functions: what they answer. No Go, no memory. -/
import Derived.Test.YtchcpjmdmohngaaDoorPx2
import Derived.Test.YtchcpjmdmohngaaDoorEv
import Derived.Test.YtchcpjmdmohngaaDoorF1
import Derived.Test.YtchcpjmdmohngaaDoorText
import Derived.Test.YtchcpjmdmohngaaDoorParse
import Derived.Test.YtchcpjmdmohngaaDoorSets
import Derived.Test.YtchcpjmdmohngaaDoorSets
import Derived.Test.YtchcpjmdmohngaaDoorSets
import Derived.Test.YtchcpjmdmohngaaDoorSets
namespace Go.Proofs.YtchcpjmdmohngaaDoor.P
open Go.RowKit Go.Proofs.YtchcpjmdmohngaaDoorW.PrintWords Go.Proofs.YtchcpjmdmohngaaDoorW.PrintLast Go.Proofs.YtchcpjmdmohngaaDoorW.PrintMore
set_option linter.unusedVariables false
set_option linter.unusedSimpArgs false

theorem impl_IsCommittee.ev (q : Int) (l : List Int) (hn : l.length ≤ 9223372036854775807) : Ev (fun k => impl_IsCommittee.f k q l) (goodC q l) := by
  unfold impl_IsCommittee.f
  by_cases h0 : (l.length : Int) ≥ 1
  · refine Ev.pos h0 ?_
    by_cases h1 : (l.length : Int) ≤ 9
    · refine Ev.pos h1 (Ev.one (show impl_areIn.f l 0 1000 = some _ from rfl) ?_)
      have hi : inB 1 9 (l.length : Int) = true := inB_iff.2 ⟨h0, h1⟩
      cases h2 : l.all (inB 0 1000) with
      | false => exact Ev.neg (by decide) ((Ev.now _).cast (by simp [goodC, h2]))
      | true =>
        refine Ev.pos rfl (Ev.bind (impl_sumOf.ev l 1000 (fun x hx => inB_iff.1 (all_mem.1 h2 x hx)) (by omega) (by omega)) (Ev.one (impl_within.eq _ _ _) ((Ev.now _).cast ?_)))
        simp [goodC, h2, hi]
    · refine Ev.neg h1 ((Ev.now _).cast ?_)
      have hi : inB 1 9 (l.length : Int) = false := inB_not.2 (fun h => h1 h.2)
      simp [goodC, hi]
  · refine Ev.neg h0 ((Ev.now _).cast ?_)
    have hi : inB 1 9 (l.length : Int) = false := inB_not.2 (fun h => h0 h.1)
    simp [goodC, hi]

theorem impl_ifCommittee.ev (q : Int) (l : List Int) (hn : l.length ≤ 9223372036854775807) : Ev (fun k => impl_ifCommittee.f k q l) (if goodC q l = true then (q, l, true) else (0, [], false)) := by
  unfold impl_ifCommittee.f
  refine Ev.bind (impl_IsCommittee.ev q l hn) ?_
  cases h : goodC q l with
  | false => exact Ev.neg (by decide) (Ev.now _)
  | true => exact Ev.pos rfl (Ev.now _)

-- NEEDS Text
-- NEEDS Parse
theorem splitT_data (s : ByteArray) : (splitT s).map (·.data.toList) = Lib.splitK [44] 0 (Lib.count s.data.toList [44]) s.data.toList := Lib.splitB_data ⟨#[44]⟩ 0 _ s
theorem maps_eq (ps : List ByteArray) : ps = (ps.map (·.data.toList)).map mkB := by
  rw [List.map_map]
  conv => lhs; rw [← List.map_id ps]
  exact List.map_congr_left (fun x _ => (mkB_eta x).symm)
theorem splitT_txt (l : List Int) (h1 : 1 ≤ l.length) (hx : ∀ x ∈ l, 0 ≤ x) : splitT (impl_numbersText.txt l) = l.map numT := by
  have hd := splitT_data (impl_numbersText.txt l)
  rw [txt_data l hx] at hd
  have hk : Lib.splitK [44] 0 (Lib.count (Lib.join (digsL l) [44]) [44]) (Lib.join (digsL l) [44]) = digsL l := by
    cases hl : digsL l with
    | nil =>
      have := congrArg List.length hl
      simp [digsL] at this
      rw [this] at h1
      simp at h1
    | cons p r =>
      obtain ⟨i1, i2⟩ := splitK_of 44 r p (fun x hm => by
        rw [← hl] at hm
        obtain ⟨y, _, rfl⟩ := List.mem_map.1 hm
        exact dec_free (by decide) _)
      rw [i2, i1]
  rw [hk] at hd
  rw [maps_eq (splitT _), hd]
  unfold digsL
  rw [List.map_map]
  exact List.map_congr_left (fun x hm => bytes_eq (by show Lib.decDigits x.toNat = _; rw [numT_data (hx x hm)]))
theorem readN_num {x : Int} {most : Int} (h0 : 0 ≤ x) (h1 : x ≤ most) (h2 : x ≤ 1000000) : readN (numT x) most = (x, true) := by
  obtain ⟨n, rfl⟩ := Int.eq_ofNat_of_zero_le h0
  unfold readN
  rw [numT_data (by omega), Int.toNat_natCast, atoi_dec n (by omega)]
  dsimp only
  rw [if_pos ⟨h0, h1, rfl⟩]
theorem readN_true {s : ByteArray} {most : Int} (h : (readN s most).2 = true) : numT (readN s most).1 = s := by
  unfold readN at h ⊢
  split
  · rename_i v hv
    rw [hv] at h
    dsimp only at h
    by_cases hc : 0 ≤ v ∧ v ≤ most ∧ numT v = s
    · rw [if_pos hc]
      exact hc.2.2
    · rw [if_neg hc] at h
      cases h
  · rename_i hv
    split at h
    · rename_i v hv2
      exact absurd hv2 (hv v)
    · cases h
theorem readAll_num (most : Int) : ∀ l : List Int, (∀ x ∈ l, 0 ≤ x ∧ x ≤ most ∧ x ≤ 1000000) → readAll most (l.map numT) = some l
  | [], _ => rfl
  | x :: r, h => by
    obtain ⟨h0, h1, h2⟩ := h x List.mem_cons_self
    rw [List.map_cons, readAll, readN_num h0 h1 h2, if_pos rfl, readAll_num most r (fun y hy => h y (List.mem_cons_of_mem _ hy))]
    rfl
theorem readAll_some (most : Int) : ∀ (ps : List ByteArray) (l : List Int), readAll most ps = some l → ps = l.map numT
  | [], l, h => by
    rw [readAll] at h
    rw [← Option.some.inj h]
    rfl
  | p :: r, l, h => by
    rw [readAll] at h
    split at h
    · rename_i hp
      obtain ⟨l2, h2, rfl⟩ := Option.map_eq_some_iff.1 h
      rw [List.map_cons, readN_true hp, ← readAll_some most r l2 h2]
    · cases h
theorem cutT_text {q : Int} (hq : 0 ≤ q) (l : List Int) (hx : ∀ x ∈ l, 0 ≤ x) : cutT (textC q l) = (numT q, impl_numbersText.txt l) := by
  have hi : Lib.index (Lib.decDigits q.toNat ++ 58 :: Lib.join (digsL l) [44]) [58] = (((Lib.decDigits q.toNat).length : Nat) : Int) := by rw [Lib.index_one]; exact idx_at _ _ (dec_free (by decide) _)
  unfold cutT Lib.cut
  rw [textC_data hq l hx, hi, if_pos (by omega), Int.toNat_natCast, List.take_left]
  have hdr : (Lib.decDigits q.toNat ++ 58 :: Lib.join (digsL l) [44]).drop ((Lib.decDigits q.toNat).length + 1) = Lib.join (digsL l) [44] := by
    rw [← List.drop_drop, List.drop_left]
    rfl
  refine Prod.ext (bytes_eq ?_) (bytes_eq ?_)
  · show Lib.decDigits q.toNat = _
    rw [numT_data hq]
  · show (Lib.decDigits q.toNat ++ 58 :: Lib.join (digsL l) [44]).drop ((Lib.decDigits q.toNat).length + 1) = _
    rw [hdr, txt_data l hx]
theorem impl_ParseCommittee.on (q : Int) (l : List Int) (h : goodC q l = true) : Ev (fun k => impl_ParseCommittee.f k (textC q l)) (q, l, true) := by
  obtain ⟨g1, g2, g3, g4, g5⟩ := goodC_iff.1 h
  have hsum := (sum_le g3).2
  have hx : ∀ x ∈ l, 0 ≤ x := fun x hm => (g3 x hm).1
  have h60 := textC_size h
  have hif := impl_ifCommittee.ev q l (by omega)
  rw [if_pos h] at hif
  unfold impl_ParseCommittee.f
  rw [cutT_text (by omega) l hx]
  dsimp only
  rw [readN_num (by omega) (by omega) (by omega)]
  have hr : readNs (impl_numbersText.txt l) 1000 = some l := by
    unfold readNs
    rw [splitT_txt l g1 hx]
    exact readAll_num 1000 l (fun x hm => by have := g3 x hm; omega)
  rw [hr]
  exact Ev.pos (by omega) (Ev.pos rfl hif)
theorem impl_ParseCommittee.off (s : ByteArray) (hs : s.size ≤ 4000000000) (h : ∀ q l, goodC q l = true → textC q l ≠ s) : Ev (fun k => impl_ParseCommittee.f k s) (0, [], false) := by
  unfold impl_ParseCommittee.f
  refine Ev.pos hs ?_
  by_cases hq : (readN (cutT s).1 9000).2 = true
  · refine Ev.pos hq ?_
    have ha := readN_true hq
    generalize (readN (cutT s).1 9000).1 = n at ha ⊢
    cases hn : readNs (cutT s).2 1000 with
    | none => exact Ev.now _
    | some l =>
      dsimp only
      have hps := readAll_some 1000 _ l hn
      have hbd := splitT_data (cutT s).2
      have hjoin := splitK_join 44 (Lib.count (cutT s).2.data.toList [44]) (cutT s).2.data.toList
      rw [← hbd, hps] at hjoin
      have hb : (cutT s).2 = impl_numbersText.txt l := bytes_eq hjoin.symm
      have hlen : l.length ≤ 9223372036854775807 := by
        have h1 := splitT_length (cutT s).2
        have h2 := Lib.countB_le ⟨#[44]⟩ (by decide) (cutT s).2.size (cutT s).2 (Nat.le_refl _)
        have h3 := (cutT_size s).2
        rw [hps, List.length_map] at h1
        omega
      have hif := impl_ifCommittee.ev n l hlen
      cases hg : goodC n l with
      | false =>
        rw [hg, if_neg (by decide)] at hif
        exact hif
      | true =>
        exfalso
        obtain ⟨g1, g2, g3, g4, g5⟩ := goodC_iff.1 hg
        have hx : ∀ x ∈ l, 0 ≤ x := fun x hm => (g3 x hm).1
        refine h n l hg (bytes_eq ?_)
        have hda : (cutT s).1.data.toList = Lib.decDigits n.toNat := by rw [← ha, numT_data (by omega)]
        have hdb : (cutT s).2.data.toList = Lib.join (digsL l) [44] := by rw [hb, txt_data l hx]
        rw [textC_data (by omega) l hx, ← hda, ← hdb]
        by_cases hi : 0 ≤ Lib.index s.data.toList [58]
        · have e : Lib.cut s.data.toList [58] = (s.data.toList.take (Lib.index s.data.toList [58]).toNat, s.data.toList.drop ((Lib.index s.data.toList [58]).toNat + 1), true) := by
            unfold Lib.cut
            rw [if_pos hi]
            rfl
          have e1 : (cutT s).1.data.toList = s.data.toList.take (Lib.index s.data.toList [58]).toNat := by show (Lib.cut s.data.toList [58]).1 = _; rw [e]
          have e2 : (cutT s).2.data.toList = s.data.toList.drop ((Lib.index s.data.toList [58]).toNat + 1) := by show (Lib.cut s.data.toList [58]).2.1 = _; rw [e]
          rw [e1, e2]
          refine (idx_cut ?_).symm
          rw [← Lib.index_one]
          omega
        · exfalso
          have e2 : (cutT s).2.data.toList = [] := by
            show (Lib.cut s.data.toList [58]).2.1 = _
            unfold Lib.cut
            rw [if_neg hi]
          have h1 : 1 ≤ (Lib.join (digsL l) [44]).length := by
            cases hl : l with
            | nil => rw [hl] at g1; simp at g1
            | cons x r =>
              show 1 ≤ (Lib.join (Lib.decDigits x.toNat :: digsL r) [44]).length
              rw [Lib.join_cons, List.length_append]
              have := (dec_all x.toNat).2.2.1
              omega
          rw [hdb] at e2
          rw [e2] at h1
          simp at h1
  · exact Ev.neg hq (Ev.now _)

-- NEEDS Sets
theorem laws_markIntS.ev (l : List Int) (k0 : Int) (h0 : 0 ≤ k0) (h1 : k0 ≤ 1000000000000) (hn : l.length ≤ 1000000000000) : Ev (fun k => laws_markIntS.f k l k0) (k0 + l.length, seqI k0 l.length) := by
  unfold laws_markIntS.f
  have h := down (P := fun i => Ev (fun k => laws_markIntS.l0 k (seqI k0 i ++ l.drop i) (k0 + i) (i : Int)) (k0 + l.length, seqI k0 l.length)) l.length ?_ ?_ 0 (Nat.zero_le _)
  · simpa [seqI] using h
  · refine Ev.step (fun k => by rw [laws_markIntS.l0]) ?_
    exact Ev.neg (by simp [seqI]) ((Ev.now _).cast (by simp))
  · intro i hi ih
    refine Ev.step (fun k => by rw [laws_markIntS.l0]) ?_
    refine Ev.pos (by simp [seqI]; omega) (Ev.pos (by omega) ?_)
    rw [wrap_next hi (by omega), wrap_id (by omega) (by omega), Int.toNat_natCast]
    have e : (seqI k0 i ++ l.drop i).set i (k0 + i) = seqI k0 (i + 1) ++ l.drop (i + 1) := by
      rw [List.set_append_right _ _ (by simp [seqI]), seqI_length, Nat.sub_self, List.drop_eq_getElem_cons hi, List.set_cons_zero]
      unfold seqI
      rw [List.range_succ, List.map_append, List.append_assoc]
      rfl
    have e2 : k0 + (i : Int) + 1 = k0 + ((i + 1 : Nat) : Int) := by omega
    rw [e, e2]
    exact ih

-- NEEDS Sets
theorem laws_markCommittee.ev (q : Int) (l : List Int) (k0 : Int) (h0 : 0 ≤ k0) (h1 : k0 ≤ 1000000000000) (hn : l.length ≤ 1000000000000) : Ev (fun k => laws_markCommittee.f k q l k0) (k0 + l.length, seqI k0 l.length) := by
  unfold laws_markCommittee.f
  exact Ev.bind (laws_markIntS.ev l k0 h0 h1 hn) (Ev.now _)

-- NEEDS Sets
theorem laws_heldIntS.ev (n : Nat) (k0 : Int) (h0 : 0 ≤ k0) (h1 : k0 ≤ 1000000000000) (hn : n ≤ 1000000000000) : Ev (fun k => laws_heldIntS.f k (seqI k0 n) k0) (k0 + n) := by
  unfold laws_heldIntS.f
  have hl := seqI_length k0 n
  have h := down (P := fun i => Ev (fun k => laws_heldIntS.l0 k (seqI k0 n) (k0 + i) (i : Int)) (k0 + n)) n ?_ ?_ 0 (Nat.zero_le _)
  · simpa using h
  · refine Ev.step (fun k => by rw [laws_heldIntS.l0]) ?_
    exact Ev.neg (by omega) (Ev.now _)
  · intro i hi ih
    refine Ev.step (fun k => by rw [laws_heldIntS.l0]) ?_
    refine Ev.pos (by omega) (Ev.pos (by omega) (Ev.pos (by rw [rd_nat (by omega), seqI_at]) ?_))
    have e2 : k0 + (i : Int) + 1 = k0 + ((i + 1 : Nat) : Int) := by omega
    rw [wrap_next hi (by omega), wrap_id (by omega) (by omega), e2]
    exact ih

-- NEEDS Sets
theorem laws_heldCommittee.ev (q : Int) (n : Nat) (k0 : Int) (h0 : 0 ≤ k0) (h1 : k0 ≤ 1000000000000) (hn : n ≤ 1000000000000) : Ev (fun k => laws_heldCommittee.f k q (seqI k0 n) k0) (k0 + n) := by
  unfold laws_heldCommittee.f
  exact Ev.bind (laws_heldIntS.ev n k0 h0 h1 hn) (Ev.neg (by omega) (Ev.now _))

end Go.Proofs.YtchcpjmdmohngaaDoor.P
