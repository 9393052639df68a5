/- Plain words of mine: what holds from some number of rounds on; lists of whole numbers. No condition. -/
import Derived.Test.YtadlpnejkkblfaaHof
namespace Go.Proofs.YtadlpnejkkblfaaW.PrintWords
open Go.RowKit
set_option linter.unusedVariables false

section
variable {α β : Type}
theorem Ev.pos {c : Prop} [Decidable c] {f g : Nat → Option α} {r : α} (h : c) (k : Ev f r) : Ev (fun n => if c then f n else g n) r := by simpa only [if_pos h] using k
theorem Ev.neg {c : Prop} [Decidable c] {f g : Nat → Option α} {r : α} (h : ¬ c) (k : Ev g r) : Ev (fun n => if c then f n else g n) r := by simpa only [if_neg h] using k
theorem Ev.one {o : Option β} {f : Nat → β → Option α} {a : β} {r : α} (h : o = some a) (k : Ev (fun n => f n a) r) : Ev (fun n => o.bind (f n)) r := by subst h; simpa only [Option.bind_some] using k
theorem Ev.same {o : Option α} {r : α} (h : o = some r) : Ev (fun _ => o) r := ⟨0, fun _ _ => h⟩
theorem Ev.cast {g : Nat → Option α} {r r' : α} (h : Ev g r) (e : r = r') : Ev g r' := e ▸ h
end
end Go.Proofs.YtadlpnejkkblfaaW.PrintWords
namespace Go.Proofs.YtadlpnejkkblfaaW.PrintMore
open Go.RowKit Go.Proofs.YtadlpnejkkblfaaW.PrintWords Go.Proofs.YtadlpnejkkblfaaW.PrintLast
set_option linter.unusedVariables false
/-- From the end down. -/
theorem down {P : Nat → Prop} (n : Nat) (last : P n) (step : ∀ i, i < n → P (i + 1) → P i) : ∀ i, i ≤ n → P i := by
  have key : ∀ d i, i + d = n → P i := by
    intro d
    induction d with
    | zero => intro i h; obtain rfl : i = n := by omega
              exact last
    | succ d ih => intro i h; exact step i (by omega) (ih (i + 1) (by omega))
  intro i hi
  exact key (n - i) i (by omega)

theorem wrap_id {x : Int} (h0 : -9223372036854775808 ≤ x) (h1 : x ≤ 9223372036854775807) : wrap64 x = x := by unfold wrap64; omega
theorem wrap_next {i n : Nat} (h : i < n) (hn : n ≤ 9223372036854775807) : wrap64 ((i : Int) + 1) = ((i + 1 : Nat) : Int) := by unfold wrap64; omega
theorem rd_nat {xs : List Int} {i : Nat} (h : i < xs.length) : rd xs (i : Int) = xs[i] := by simp [rd, h]
theorem rdOf_nat {α : Type} {z : α} {xs : List α} {i : Nat} (h : i < xs.length) : rdOf z xs (i : Int) = xs[i] := by simp [rdOf, h]
theorem wf_i64 {x : Int} (h : (Lit.int .i64 x).wf = true) : -9223372036854775808 ≤ x ∧ x ≤ 9223372036854775807 := by
  simp only [Lit.wf, Bool.and_eq_true, decide_eq_true_eq] at h
  have e0 : IntKind.min .i64 = -9223372036854775808 := by decide
  have e1 : IntKind.max .i64 = 9223372036854775807 := by decide
  omega
theorem inB_iff {a b n : Int} : inB a b n = true ↔ a ≤ n ∧ n ≤ b := by simp [inB]
theorem inB_not {a b n : Int} : inB a b n = false ↔ ¬ (a ≤ n ∧ n ≤ b) := by simp [inB]
theorem sum_le {l : List Int} {B : Int} (h : ∀ x ∈ l, 0 ≤ x ∧ x ≤ B) : 0 ≤ l.sum ∧ l.sum ≤ l.length * B := by
  induction l with
  | nil => simp
  | cons a r ih =>
    have h1 := ih (fun x hx => h x (List.mem_cons_of_mem _ hx))
    have h2 := h a List.mem_cons_self
    rw [List.sum_cons, List.length_cons, Int.natCast_add, Int.add_mul]
    omega
theorem sum_take {l : List Int} {i : Nat} (h : i < l.length) : (l.take (i + 1)).sum = (l.take i).sum + l[i] := by
  rw [List.take_succ_eq_append_getElem h, List.sum_append]
  simp
theorem take_sum_le {l : List Int} {B : Int} (h : ∀ x ∈ l, 0 ≤ x ∧ x ≤ B) (i : Nat) (hi : i ≤ l.length) : 0 ≤ (l.take i).sum ∧ (l.take i).sum ≤ i * B := by
  have h1 := sum_le (l := l.take i) (B := B) (fun x hx => h x (List.mem_of_mem_take hx))
  rw [List.length_take, Nat.min_eq_left hi] at h1
  exact h1
theorem all_mem {α : Type} {p : α → Bool} {l : List α} : l.all p = true ↔ ∀ x ∈ l, p x = true := List.all_eq_true
/-- The place of an element in a list that is read. -/
theorem drop_all {α : Type} (p : α → Bool) (l : List α) (i : Nat) (h : i < l.length) : (l.drop i).all p = (p l[i] && (l.drop (i + 1)).all p) := by
  rw [List.drop_eq_getElem_cons h, List.all_cons]
/-- Is (q, l) a committee? -/
def goodC (q : Int) (l : List Int) : Bool := inB 1 9 (l.length : Int) && l.all (inB 0 1000) && inB 1 l.sum q
theorem goodC_iff {q : Int} {l : List Int} : goodC q l = true ↔ 1 ≤ l.length ∧ l.length ≤ 9 ∧ (∀ x ∈ l, 0 ≤ x ∧ x ≤ 1000) ∧ 1 ≤ q ∧ q ≤ l.sum := by
  simp only [goodC, Bool.and_eq_true, inB_iff, all_mem]
  constructor
  · rintro ⟨⟨⟨h1, h2⟩, h3⟩, h4, h5⟩
    exact ⟨by omega, by omega, h3, h4, h5⟩
  · rintro ⟨h1, h2, h3, h4, h5⟩
    exact ⟨⟨⟨by omega, by omega⟩, h3⟩, h4, h5⟩
end Go.Proofs.YtadlpnejkkblfaaW.PrintMore
