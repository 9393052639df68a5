/- Arguments laid open: a slice of whole numbers, a struct of two whole numbers, of a number and a slice, of a number and a slice of slices. Lemmas of mine; no condition. -/
import Derived.Test.YthjnmfacdlgbbaaWWords
import Derived.Lib.SmallJoins
import Derived.Deep.Matrix
import Derived.ProofKit
namespace Go.Proofs.Ythjnmfacdlgbbaa.Open
open Go.ChangeShapes Go.WideShapes Go.RowKit Go.Joins Go.Deep
open Go.Proofs.YthjnmfacdlgbbaaW.PrintWords
set_option linter.unusedVariables false
section
variable {H : Type} {enc : TypeId × Value → H} {P : Program} {w : World} {base b0 : Nat} {held : Bool} {r : Reach} {v : Value} {d : DataW H} {p : List MemPlace} {k k0 k1 : IntKind}
theorem row_le {α : Type} {dk : Kd α} {A : Option Addr} {n : Nat} {l : List α} (h : Kd.C dk w A n l) : l.length ≤ maxLen := by
  have h1 := h.1
  have h2 := h.2.1
  unfold maxLen
  omega
theorem row_of {a : Addr} {len cap : Nat} {zs : List Int} (hl : len ≤ cap) (hm : cap ≤ maxLen) (hz : zs.length = cap) (hc : ∀ i, i < cap → w.cell? (a.add i) = some (.int k (zs.getD i 0))) :
    Kd.C (Kd.int k) w (some a) (zs.take len).length (zs.take len) := by
  have hlen : (zs.take len).length = len := by rw [List.length_take]; omega
  refine ⟨rfl, by unfold maxLen at hm; omega, fun _ => ⟨a, rfl, fun j q hj => ⟨[.int k q], rfl, rfl, fun i u hu => ?_⟩⟩⟩
  have hjl := (List.getElem?_eq_some_iff.1 hj).1
  rw [hlen] at hjl
  cases i with
  | succ i => simp at hu
  | zero =>
    have e : Value.int k q = u := by simpa using hu
    subst e
    have h := hc j (by omega)
    rw [List.getElem?_take] at hj
    rw [if_pos (by omega)] at hj
    rw [List.getD_eq_getElem?_getD, hj] at h
    simpa [Kd.int, Kd.scalar] using h
theorem row_nil {α : Type} (dk : Kd α) : Kd.C dk w none ([] : List α).length [] := ⟨rfl, by simp, fun h => absurd h (by simp)⟩
theorem open_cells {t e : TypeId} {fuel : Nat} {cs : List Value} {x : DataW H × List MemPlace} (ht : P.underlying t = some (.slice e)) (he : P.underlying e = some (.int k)) (hc : P.cellsOf e = 1) (h : DataW.trod enc P w base (fun _ => true) held fuel t cs = some x) :
    ∃ (A : Option Addr) (c : Nat) (l : List Int), cs = [.slice A l.length c] ∧ Kd.C (Kd.int k) w A l.length l ∧ l.length ≤ c ∧ ∀ y ∈ l, (Lit.int k y).wf = true := by
  rcases open_ints ht he hc h with ⟨rfl, _⟩ | ⟨a, len, cap, zs, rfl, _, hl, hm, hz, _, hcell, hwz⟩
  · exact ⟨none, 0, [], rfl, row_nil _, by simp, by simp⟩
  · simp only [if_true] at hz
    have hlen : (zs.take len).length = len := by rw [List.length_take]; omega
    exact ⟨some a, cap, zs.take len, by rw [hlen], row_of hl hm hz (fun i hi => hcell i (by omega)), by omega, fun y hy => hwz y (List.mem_of_mem_take hy)⟩
theorem open_int_row {t e : TypeId} {f0 f1 : Field} (hs : P.underlying t = some (.struct #[f0, f1])) (hone : oneCellFields P #[f0, f1] = true) (hC : P.cellsOf t = 2)
    (u0 : P.underlying f0.type = some (.int k0)) (u1 : P.underlying f1.type = some (.slice e)) (ue : P.underlying e = some (.int k)) (hc : P.cellsOf e = 1) (hv : Value.okWide P w r b0 t v) (h : DataW.Trod enc P w base (fun _ => true) held t v d p) :
    ∃ (n0 : Int) (A : Option Addr) (c : Nat) (l : List Int), v = .agg #[.int k0 n0, .slice A l.length c] ∧ (Lit.int k0 n0).wf = true ∧ Kd.C (Kd.int k) w A l.length l ∧ l.length ≤ c ∧ ∀ x ∈ l, (Lit.int k x).wf = true := by
  obtain ⟨v0, v1, y0, y1, n, rfl, rfl, rfl, h0, h1⟩ := open_agg2 hs hone hC hv h
  obtain ⟨n0, e0, _, w0⟩ := DataW.trod_int u0 h0
  obtain ⟨A, c, l, e1, hr, hl, hw⟩ := open_cells u1 ue hc h1
  obtain rfl : v0 = .int k0 n0 := by simpa using e0
  obtain rfl : v1 = .slice A l.length c := by simpa using e1
  exact ⟨n0, A, c, l, rfl, w0, hr, hl, hw⟩
end
end Go.Proofs.Ythjnmfacdlgbbaa.Open
