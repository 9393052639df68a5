/- Plain words of mine on texts of numbers and of committees. No condition. -/
import Derived.Test.YtchcpjmdmohngaaDoorHof
import Derived.Lib.ItoaLen
import Derived.Lib.ItoaMem
import Derived.Lib.Join
namespace Go.Proofs.YtchcpjmdmohngaaDoorW.PrintMore
set_option linter.unusedVariables false
set_option linter.unusedSimpArgs false
/-- A number's decimal text. -/
def numT (n : Int) : ByteArray := ⟨(Lib.itoa n).toArray⟩
/-- Texts with a comma between them. -/
def joinT (xs : List ByteArray) : ByteArray := ⟨(Lib.join (xs.map (·.data.toList)) [44]).toArray⟩
theorem joinT_len (xs : List ByteArray) (m : Nat) (h : ∀ x ∈ xs, x.size ≤ m) : (Lib.join (xs.map (·.data.toList)) [44]).length ≤ (m + 1) * xs.length := by
  cases xs with
  | nil => simp [Lib.join_nil]
  | cons x r =>
    rw [List.map_cons, Lib.join_length]
    have key : ∀ l : List ByteArray, (∀ x ∈ l, x.size ≤ m) → Lib.lens (l.map (·.data.toList)) ≤ m * l.length := by
      intro l
      induction l with
      | nil => intro _; simp [Lib.lens]
      | cons y s ih =>
        intro hl
        have h1 := ih (fun z hz => hl z (List.mem_cons_of_mem _ hz))
        have h2 : y.data.toList.length ≤ m := by rw [Array.length_toList]; exact hl y List.mem_cons_self
        have e : Lib.lens ((y :: s).map (·.data.toList)) = y.data.toList.length + Lib.lens (s.map (·.data.toList)) := by simp [Lib.lens]
        rw [e, List.length_cons, Nat.mul_add, Nat.mul_one]
        omega
    have h3 := key (x :: r) h
    rw [List.map_cons] at h3
    simp only [List.length_cons, List.length_map, List.length_nil, Nat.mul_add, Nat.add_mul, Nat.mul_one, Nat.one_mul] at h3 ⊢
    omega
def impl_numbersText.txt (l : List Int) : ByteArray := joinT (l.map numT)
/-- A committee's text. -/
def textC (q : Int) (l : List Int) : ByteArray := (numT q ++ ⟨#[58]⟩) ++ impl_numbersText.txt l
theorem numT_size (n : Int) (h0 : -1000000 ≤ n) (h1 : n ≤ 1000000) : (numT n).size ≤ 21 := by
  have h := Lib.itoa_length_le n (by omega) (by omega)
  simpa [numT, ByteArray.size] using h
theorem txt_size (l : List Int) (h9 : l.length ≤ 1000) (hx : ∀ x ∈ l, -1000000 ≤ x ∧ x ≤ 1000000) : (impl_numbersText.txt l).size ≤ 22000 := by
  have h := joinT_len (l.map numT) 21 (fun x hm => by
    obtain ⟨n, hn, rfl⟩ := List.mem_map.1 hm
    exact numT_size n (hx n hn).1 (hx n hn).2)
  rw [List.length_map] at h
  have e : (impl_numbersText.txt l).size = (Lib.join ((l.map numT).map (·.data.toList)) [44]).length := by simp [impl_numbersText.txt, joinT, ByteArray.size]
  rw [e]
  omega
theorem bytes_eq {a b : ByteArray} (h : a.data.toList = b.data.toList) : a = b := by
  cases a with
  | mk a =>
    cases b with
    | mk b =>
      congr 1
      exact Array.toList_inj.1 h
theorem bytes_app (a b : ByteArray) : (a ++ b).data.toList = a.data.toList ++ b.data.toList := by simp [ByteArray.data_append]
theorem numT_nat (n : Nat) : numT (n : Int) = ⟨(Lib.decDigits n).toArray⟩ := by unfold numT; rw [Lib.itoa_nonneg]
theorem joinT_nil : joinT [] = ⟨#[]⟩ := rfl
theorem joinT_one (y : ByteArray) : joinT [y] = y := by
  apply bytes_eq
  simp [joinT, Lib.join_one]
theorem joinT_snoc (xs : List ByteArray) (y : ByteArray) (h : 1 ≤ xs.length) : joinT (xs ++ [y]) = (joinT xs ++ ⟨#[44]⟩) ++ y := by
  apply bytes_eq
  rw [bytes_app, bytes_app]
  cases xs with
  | nil => simp at h
  | cons x r =>
    have e1 : (joinT (x :: r ++ [y])).data.toList = Lib.join ((x :: r ++ [y]).map (·.data.toList)) [44] := by simp [joinT]
    have e2 : (joinT (x :: r)).data.toList = Lib.join ((x :: r).map (·.data.toList)) [44] := by simp [joinT]
    rw [e1, e2, List.cons_append, List.map_cons, List.map_cons, Lib.join_cons, Lib.join_cons, List.map_append]
    simp [Lib.joinTail]
/-- Bytes as a text. -/
def mkB (l : List UInt8) : ByteArray := ⟨l.toArray⟩
theorem mkB_data (l : List UInt8) : (mkB l).data.toList = l := rfl
theorem mkB_eta (s : ByteArray) : mkB s.data.toList = s := bytes_eq rfl
/-- The digits of a list's numbers. -/
def digsL (l : List Int) : List (List UInt8) := l.map fun x => Lib.decDigits x.toNat
theorem numT_data {x : Int} (h : 0 ≤ x) : (numT x).data.toList = Lib.decDigits x.toNat := by
  obtain ⟨n, rfl⟩ := Int.eq_ofNat_of_zero_le h
  rw [numT_nat]
  rfl
theorem digsL_eq (l : List Int) (h : ∀ x ∈ l, 0 ≤ x) : (l.map numT).map (·.data.toList) = digsL l := by
  rw [List.map_map]
  exact List.map_congr_left (fun x hx => numT_data (h x hx))
theorem txt_data (l : List Int) (h : ∀ x ∈ l, 0 ≤ x) : (impl_numbersText.txt l).data.toList = Lib.join (digsL l) [44] := by
  show Lib.join ((l.map numT).map (·.data.toList)) [44] = _
  rw [digsL_eq l h]
theorem textC_data {q : Int} (hq : 0 ≤ q) (l : List Int) (h : ∀ x ∈ l, 0 ≤ x) : (textC q l).data.toList = Lib.decDigits q.toNat ++ 58 :: Lib.join (digsL l) [44] := by
  unfold textC
  rw [bytes_app, bytes_app, numT_data hq, txt_data l h, List.append_assoc]
  rfl
theorem inj_toList {a b : ByteArray} (h : a.toList = b.toList) : a = b := bytes_eq (by rw [← ByteArray.toList_eq, ← ByteArray.toList_eq]; exact h)
end Go.Proofs.YtchcpjmdmohngaaDoorW.PrintMore
