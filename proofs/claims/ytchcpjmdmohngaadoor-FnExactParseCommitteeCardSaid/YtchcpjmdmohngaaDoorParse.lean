/- Plain words of mine on texts: a number's digits, pieces between separators. No condition. -/
import Derived.Test.YtchcpjmdmohngaaDoorHof
import Derived.Lib.AtoiAll
import Derived.Lib.ItoaMem
import Derived.Lib.Split
import Derived.Lib.Join
import Derived.Lib.IndexBytes
import Derived.Lib.IndexLaws
namespace Go.Proofs.YtchcpjmdmohngaaDoorW.PrintMore
set_option linter.unusedVariables false
set_option linter.unusedSimpArgs false
def stepD (a : Nat) (d : UInt8) : Nat := 10 * a + (d.toNat - 48)
def valD (l : List UInt8) : Nat := l.foldl stepD 0
theorem valD_snoc (l : List UInt8) (d : UInt8) : valD (l ++ [d]) = 10 * valD l + (d.toNat - 48) := by
  unfold valD
  rw [List.foldl_append]
  rfl
def isD (d : UInt8) : Prop := 48 ≤ d.toNat ∧ d.toNat ≤ 57
theorem dig_toNat {i : Nat} (h : i < 10) : (UInt8.ofNat (48 + i)).toNat = 48 + i := by
  rw [UInt8.toNat_ofNat']
  omega
theorem dec_all (n : Nat) : (∀ d ∈ Lib.decDigits n, isD d) ∧ valD (Lib.decDigits n) = n ∧ 1 ≤ (Lib.decDigits n).length ∧ (∀ k, 1 ≤ k → n < 10 ^ k → (Lib.decDigits n).length ≤ k) ∧ (10 ≤ n → ∀ d, (Lib.decDigits n)[0]? = some d → d.toNat ≠ 48) := by
  induction n using Nat.strongRecOn with
  | _ n ih =>
    by_cases h : n < 10
    · rw [Lib.decDigits_one h]
      have hd := dig_toNat h
      refine ⟨fun d hm => ?_, ?_, by simp, fun k hk _ => by simpa using hk, fun h2 => by omega⟩
      · rw [List.mem_singleton] at hm
        rw [hm]
        unfold isD
        omega
      · show 10 * 0 + ((UInt8.ofNat (48 + n)).toNat - 48) = n
        omega
    · have e : Lib.decDigits n = Lib.decDigits (n / 10) ++ [UInt8.ofNat (48 + n % 10)] := by rw [Lib.decDigits.eq_def n, dif_neg h]
      obtain ⟨i1, i2, i3, i4, i5⟩ := ih (n / 10) (by omega)
      have hd := dig_toNat (show n % 10 < 10 by omega)
      rw [e]
      refine ⟨fun d hm => ?_, ?_, by simp, fun k hk hn => ?_, fun _ d hm => ?_⟩
      · rcases List.mem_append.1 hm with hm | hm
        · exact i1 d hm
        · rw [List.mem_singleton] at hm
          rw [hm]
          unfold isD
          omega
      · rw [valD_snoc, i2, hd]
        omega
      · rw [List.length_append, List.length_singleton]
        match k, hk with
        | 1, _ => omega
        | k + 2, _ =>
          have := i4 (k + 1) (by omega) (by rw [Nat.pow_succ] at hn; omega)
          omega
      · rw [List.getElem?_append_left (by omega)] at hm
        by_cases h2 : n / 10 < 10
        · rw [Lib.decDigits_one h2] at hm
          have hd2 := dig_toNat h2
          simp only [List.getElem?_cons_zero, Option.some.injEq] at hm
          rw [← hm, hd2]
          omega
        · exact i5 (by omega) d hm
theorem fold_ge : ∀ (l : List UInt8) (a : Nat), a ≤ l.foldl stepD a
  | [], a => Nat.le_refl a
  | c :: r, a => by
    have h := fold_ge r (stepD a c)
    show a ≤ r.foldl stepD (stepD a c)
    unfold stepD at h ⊢
    omega
theorem parse_ok : ∀ (l : List UInt8) (acc : Nat), (∀ d ∈ l, isD d) → l.foldl stepD acc < 1000000000000000 → Lib.parseUint10 acc l = .ok (l.foldl stepD acc)
  | [], acc, _, _ => rfl
  | c :: r, acc, h, hv => by
    have hc : 48 ≤ c.toNat ∧ c.toNat ≤ 57 := h c List.mem_cons_self
    have hg := fold_ge r (stepD acc c)
    have hv' : r.foldl stepD (stepD acc c) < 1000000000000000 := hv
    have he : acc * 10 + (c.toNat - 48) = stepD acc c := by unfold stepD; omega
    have hs : stepD acc c < 1000000000000000 := by omega
    rw [Lib.parseUint10, if_pos hc, if_neg (by omega), he, if_neg (by omega)]
    exact parse_ok r _ (fun d hd => h d (List.mem_cons_of_mem _ hd)) hv'
theorem atoi_dec (n : Nat) (h : n ≤ 1000000) : Lib.atoiAll (Lib.decDigits n) = .ok (n : Int) := by
  obtain ⟨h1, h2, h3, -, -⟩ := dec_all n
  cases hd : Lib.decDigits n with
  | nil => rw [hd] at h3; simp at h3
  | cons c r =>
    rw [hd] at h1 h2
    have hc : 48 ≤ c.toNat ∧ c.toNat ≤ 57 := h1 c List.mem_cons_self
    have hp : Lib.parseMag (c :: r) = .ok n := by
      unfold Lib.parseMag
      rw [if_neg (by simp), parse_ok (c :: r) 0 h1 (by show valD (c :: r) < _; rw [h2]; omega)]
      exact congrArg _ h2
    unfold Lib.atoiAll
    dsimp only
    rw [if_neg (show ¬ (c.toNat = 43 ∨ c.toNat = 45) by omega), hp]
    dsimp only
    rw [if_neg (by omega), if_neg (by omega), if_neg (by omega)]
theorem idx_at {c : UInt8} : ∀ (p r : List UInt8), c ∉ p → Lib.indexByte (p ++ c :: r) c = (p.length : Int)
  | [], r, _ => by simp [Lib.indexByte]
  | b :: p, r, h => by
    have hb : ¬ (b == c) = true := by
      intro e
      exact h (by rw [← beq_iff_eq.1 e]; exact List.mem_cons_self)
    have ih := idx_at p r (fun hm => h (List.mem_cons_of_mem _ hm))
    rw [List.cons_append, Lib.indexByte, if_neg hb, ih, if_neg (by first | (simp; done) | (simp; omega)), List.length_cons]
    omega
theorem idx_no {c : UInt8} : ∀ (p : List UInt8), c ∉ p → Lib.indexByte p c = -1
  | [], _ => rfl
  | b :: p, h => by
    have hb : ¬ (b == c) = true := by
      intro e
      exact h (by rw [← beq_iff_eq.1 e]; exact List.mem_cons_self)
    rw [Lib.indexByte, if_neg hb, idx_no p (fun hm => h (List.mem_cons_of_mem _ hm)), if_pos (by decide)]
theorem idx_cut {c : UInt8} {l : List UInt8} {o : Nat} (h : Lib.indexByte l c = o) : l = l.take o ++ c :: l.drop (o + 1) := by
  obtain ⟨ho, he⟩ := List.getElem?_eq_some_iff.1 (Lib.indexByte_some h).1
  have h2 : l.drop o = c :: l.drop (o + 1) := by rw [List.drop_eq_getElem_cons ho, he]
  rw [← h2, List.take_append_drop]
theorem join_cons2 (x : List UInt8) (r : List (List UInt8)) (sep : List UInt8) (h : r ≠ []) : Lib.join (x :: r) sep = x ++ (sep ++ Lib.join r sep) := by
  cases r with
  | nil => exact absurd rfl h
  | cons y t =>
    rw [Lib.join_cons, Lib.join_cons]
    simp [Lib.joinTail]
theorem splitK_ne (sep : List UInt8) (v : Nat) : ∀ (k : Nat) (l : List UInt8), Lib.splitK sep v k l ≠ []
  | 0, l => by simp [Lib.splitK]
  | k + 1, l => by
    rw [Lib.splitK]
    split <;> simp
theorem splitK_join (c : UInt8) : ∀ (k : Nat) (l : List UInt8), Lib.join (Lib.splitK [c] 0 k l) [c] = l
  | 0, l => Lib.join_one l [c]
  | k + 1, l => by
    rw [Lib.splitK, Lib.index_one]
    by_cases h : Lib.indexByte l c = -1
    · rw [if_pos (by simp [h])]
      exact Lib.join_one l [c]
    · rw [if_neg (by simpa using h)]
      obtain ⟨o, ho⟩ : ∃ o : Nat, Lib.indexByte l c = o := ⟨(Lib.indexByte l c).toNat, by have := Lib.indexByte_ge l c; omega⟩
      rw [ho, Int.toNat_natCast, Nat.add_zero, join_cons2 _ _ _ (splitK_ne _ _ _ _), splitK_join c k]
      exact (idx_cut ho).symm
theorem splitK_of (c : UInt8) : ∀ (ps : List (List UInt8)) (p : List UInt8), (∀ x ∈ p :: ps, c ∉ x) → Lib.splitK [c] 0 ps.length (Lib.join (p :: ps) [c]) = p :: ps ∧ Lib.count (Lib.join (p :: ps) [c]) [c] = ps.length
  | [], p, h => by
    rw [Lib.join_one]
    exact ⟨rfl, Lib.count_miss (by rw [Lib.index_one]; exact idx_no p (h p List.mem_cons_self))⟩
  | q :: ps, p, h => by
    have hj : Lib.join (p :: q :: ps) [c] = p ++ c :: Lib.join (q :: ps) [c] := join_cons2 p (q :: ps) [c] (by simp)
    obtain ⟨i1, i2⟩ := splitK_of c ps q (fun x hx => h x (List.mem_cons_of_mem _ hx))
    rw [hj]
    generalize Lib.join (q :: ps) [c] = J at i1 i2
    have hi : Lib.index (p ++ c :: J) [c] = ((p.length : Nat) : Int) := by rw [Lib.index_one]; exact idx_at p J (h p List.mem_cons_self)
    have hdr : (p ++ c :: J).drop (p.length + 1) = J := by
      rw [← List.drop_drop, List.drop_left]
      rfl
    refine ⟨?_, ?_⟩
    · show Lib.splitK [c] 0 (ps.length + 1) _ = _
      rw [Lib.splitK, hi, if_neg (by first | (simp; done) | (simp; omega)), Int.toNat_natCast, Nat.add_zero, List.take_left]
      show p :: Lib.splitK [c] 0 ps.length ((p ++ c :: J).drop (p.length + 1)) = _
      rw [hdr, i1]
    · rw [Lib.count_hit (by simp) hi]
      show 1 + Lib.count ((p ++ c :: J).drop (p.length + 1)) [c] = _
      rw [hdr, i2, List.length_cons]
      omega
/-- Pieces, as they come from the left. -/
def spA (c : UInt8) : List UInt8 → List UInt8 → List (List UInt8)
  | cur, [] => [cur]
  | cur, x :: r => if x = c then cur :: spA c [] r else spA c (cur ++ [x]) r
theorem spA_free (c : UInt8) : ∀ (p cur r : List UInt8), c ∉ p → spA c cur (p ++ r) = spA c (cur ++ p) r
  | [], cur, r, _ => by rw [List.nil_append, List.append_nil]
  | b :: p, cur, r, h => by
    rw [List.cons_append, spA, if_neg (fun e => h (by rw [e]; exact List.mem_cons_self)), spA_free c p _ r (fun hm => h (List.mem_cons_of_mem _ hm)), List.append_assoc]
    rfl
theorem spA_of (c : UInt8) : ∀ (ps : List (List UInt8)) (p : List UInt8), (∀ x ∈ p :: ps, c ∉ x) → spA c [] (Lib.join (p :: ps) [c]) = p :: ps
  | [], p, h => by
    rw [Lib.join_one]
    have e := spA_free c p [] [] (h p List.mem_cons_self)
    rw [List.append_nil] at e
    rw [e]
    rfl
  | q :: ps, p, h => by
    rw [join_cons2 p (q :: ps) [c] (by simp), spA_free c p [] _ (h p List.mem_cons_self)]
    show spA c p (c :: Lib.join (q :: ps) [c]) = _
    rw [spA, if_pos rfl, spA_of c ps q (fun x hx => h x (List.mem_cons_of_mem _ hx))]
theorem spA_len (c : UInt8) : ∀ (r cur : List UInt8), (spA c cur r).length ≤ r.length + 1
  | [], cur => by simp [spA]
  | x :: r, cur => by
    rw [spA]
    split
    · have := spA_len c r []
      simp only [List.length_cons]
      omega
    · have := spA_len c r (cur ++ [x])
      simp only [List.length_cons]
      omega
theorem spA_size (c : UInt8) : ∀ (r cur : List UInt8), ∀ x ∈ spA c cur r, x.length ≤ cur.length + r.length
  | [], cur, x, hx => by
    rw [spA, List.mem_singleton] at hx
    rw [hx]
    simp
  | b :: r, cur, x, hx => by
    rw [spA] at hx
    split at hx
    · rcases List.mem_cons.1 hx with rfl | hx
      · simp
      · have := spA_size c r [] x hx
        simp only [List.length_nil, List.length_cons] at this ⊢
        omega
    · have := spA_size c r (cur ++ [b]) x hx
      simp only [List.length_append, List.length_cons, List.length_nil] at this ⊢
      omega
theorem mem_join (c : UInt8) : ∀ (ps : List (List UInt8)) (x : UInt8), x ∈ Lib.join ps [c] → x = c ∨ ∃ p ∈ ps, x ∈ p
  | [], x, h => by simp [Lib.join_nil] at h
  | [p], x, h => by
    rw [Lib.join_one] at h
    exact .inr ⟨p, by simp, h⟩
  | p :: q :: r, x, h => by
    rw [join_cons2 p (q :: r) [c] (by simp)] at h
    rcases List.mem_append.1 h with h | h
    · exact .inr ⟨p, List.mem_cons_self, h⟩
    · rcases List.mem_append.1 h with h | h
      · exact .inl (by simpa using h)
      · rcases mem_join c (q :: r) x h with h | ⟨y, hy, hx⟩
        · exact .inl h
        · exact .inr ⟨y, List.mem_cons_of_mem _ hy, hx⟩
/-- No separator among digits. -/
theorem dec_free {c : UInt8} (hc : c.toNat < 48 ∨ 57 < c.toNat) (n : Nat) : c ∉ Lib.decDigits n := fun hm => by
  have h := (dec_all n).1 c hm
  unfold isD at h
  omega
end Go.Proofs.YtchcpjmdmohngaaDoorW.PrintMore
