/- Words of mine for functions that are handed function values: what is asked of a closure; the first place at which it says yes. No condition. -/
import Derived.Test.YtbjgdbgaopgbjaaWWords
import Derived.Test.YtbjgdbgaopgbjaaWLast
import Derived.Test.YtbjgdbgaopgbjaaWMore
import Derived.Shelf.Abstract
import Derived.Lib.SmallJoins
namespace Go.Proofs.YtbjgdbgaopgbjaaW.PrintMore
open Go.RowKit Go.Proofs.YtbjgdbgaopgbjaaW.PrintWords Go.Proofs.YtbjgdbgaopgbjaaW.PrintLast
set_option linter.unusedVariables false
set_option linter.unusedSimpArgs false

/-- The first place, or -1. -/
def idxOf {α : Type} (p : α → Bool) : List α → Int
  | [] => -1
  | x :: r => if p x = true then 0 else if idxOf p r < 0 then -1 else idxOf p r + 1
/-- In every world in which what lay in w lies unturned the closure answers p at what is in l, and leaves such a world again. -/
def Pred {α : Type} (P : Program) (g : Nat) (lb : Array Value) (d : Kd α) (p : α → Bool) (l : List α) (w : World) : Prop :=
  ∀ (W : World) (x : α) (v : Value), x ∈ l → d.K W x [v] → Below w.heap.size w W → Calls P g (#[v] ++ lb) W fun e w' => e = .returned (.bool (p x)) ∧ Below w.heap.size w w'
theorem idxOf_hit {α : Type} (p : α → Bool) (l : List α) (k : Nat) (hk : k < l.length) (h : p l[k] = true) (hb : ∀ j (hj : j < k), p (l[j]'(by omega)) = false) : idxOf p l = k := by
  induction l generalizing k with
  | nil => simp at hk
  | cons x r ih =>
    cases k with
    | zero => simp [idxOf] at h ⊢; simp [h]
    | succ k =>
      have h0 : p x = false := hb 0 (by omega)
      have h1 := ih k (by simpa using hk) (by simpa using h) (fun j hj => by have := hb (j + 1) (by omega); simpa using this)
      simp only [idxOf, h0, h1]
      simp
      omega
theorem idxOf_miss {α : Type} (p : α → Bool) (l : List α) (hb : ∀ j (hj : j < l.length), p l[j] = false) : idxOf p l = -1 := by
  induction l with
  | nil => rfl
  | cons x r ih =>
    have h0 : p x = false := hb 0 (by simp)
    have h1 := ih (fun j hj => by have := hb (j + 1) (by simpa using hj); simpa using this)
    simp [idxOf, h0, h1]
theorem idxOf_nonneg {α : Type} (p : α → Bool) (l : List α) : decide (0 ≤ idxOf p l) = l.any p := by
  induction l with
  | nil => rfl
  | cons x r ih =>
    simp only [idxOf, List.any_cons]
    by_cases h : p x = true
    · simp [h]
    · simp only [h, ← ih]
      by_cases h2 : idxOf p r < 0
      · simp [h2]
      · simp [h2]
        omega
theorem C_one {α : Type} {d : Kd α} (hd : d.sz = 1) {w : World} {A : Option Addr} {n : Nat} {xs : List α} (h : Kd.C d w A n xs) (i : Nat) (hi : i < xs.length) :
    ∃ ad u, A = some ad ∧ d.K w xs[i] [u] ∧ w.cell? (ad.add i) = some u := by
  obtain ⟨ad, e, hc⟩ := h.2.2 (by have := h.1; omega)
  obtain ⟨c, hl, hK, hcell⟩ := hc i _ (List.getElem?_eq_getElem hi)
  rw [hd] at hl hcell
  match c, hl with
  | [u], _ => exact ⟨ad, u, e, hK, by simpa using hcell 0 u rfl⟩
theorem cell_later {w W : World} (hb : Below w.heap.size w W) {a : Addr} {v : Value} (h : w.cell? a = some v) : W.cell? a = some v := (hb.cell (World.block_lt_of_cell? w _ h)).trans h
/-- Is n from a to b? -/
def inB (a b n : Int) : Bool := decide (a ≤ n ∧ n ≤ b)
theorem not_any_not {α : Type} (p : α → Bool) (l : List α) : (!(l.any fun n => !p n)) = l.all p := by simp [List.all_eq_not_any_not]
/-- Where every answer is there it stays so with more rounds. -/
theorem all_some {α β : Type} (g g' : α → Option β) (l : List α) (h : ∀ x, LeO (g x) (g' x)) (hs : l.all (fun x => (g x).isSome) = true) : l.all (fun x => (g' x).isSome) = true ∧ ∀ x ∈ l, g' x = g x := by
  have key : ∀ x ∈ l, (g' x).isSome = true ∧ g' x = g x := by
    intro x hx
    obtain ⟨b, hb⟩ := Option.isSome_iff_exists.1 (List.all_eq_true.1 hs x hx)
    rw [h x b hb, hb]
    exact ⟨rfl, rfl⟩
  exact ⟨List.all_eq_true.2 fun x hx => (key x hx).1, fun x hx => (key x hx).2⟩
theorem any_same {α : Type} {p q : α → Bool} {l : List α} (h : ∀ x ∈ l, p x = q x) : l.any p = l.any q := by
  induction l with
  | nil => rfl
  | cons x r ih => rw [List.any_cons, List.any_cons, h x List.mem_cons_self, ih (fun y hy => h y (List.mem_cons_of_mem _ hy))]
end Go.Proofs.YtbjgdbgaopgbjaaW.PrintMore
