/- Arguments laid open: a slice of whole numbers, a struct of two whole numbers, of a number and a slice, of a number and a slice of slices. Lemmas of mine; no condition. -/
import Derived.Test.YtbjgdbgaopgbjaaWWords
import Derived.Lib.SmallJoins
import Derived.Deep.Matrix
import Derived.ProofKit
namespace Go.Proofs.Ytbjgdbgaopgbjaa.Open
open Go.ChangeShapes Go.WideShapes Go.RowKit Go.Joins Go.Deep
open Go.Proofs.YtbjgdbgaopgbjaaW.PrintWords
set_option linter.unusedVariables false
section
variable {H : Type} {enc : TypeId × Value → H} {P : Program} {w : World} {base b0 : Nat} {held : Bool} {r : Reach} {v : Value} {d : DataW H} {p : List MemPlace} {k k0 k1 : IntKind}

theorem row_le {α : Type} {dk : Kd α} {A : Option Addr} {n : Nat} {l : List α} (h : Kd.C dk w A n l) : l.length ≤ maxLen := by
  have h1 := h.1
  have h2 := h.2.1
  unfold maxLen
  omega

/-- What a row that was read holds, cell by cell. -/
theorem row_of {a : Addr} {len cap : Nat} {zs : List Int} (hl : len ≤ cap) (hm : cap ≤ maxLen) (hz : zs.length = cap) (hc : ∀ i, i < cap → w.cell? (a.add i) = some (.int k (zs.getD i 0))) :
    Kd.C (Kd.int k) w (some a) (zs.take len).length (zs.take len) := by
  have hlen : (zs.take len).length = len := by rw [List.length_take]; omega
  refine ⟨rfl, by unfold maxLen at hm; omega, fun _ => ⟨a, rfl, fun j q hj => ⟨[.int k q], rfl, rfl, fun i u hu => ?_⟩⟩⟩
  have hjl := (List.getElem?_eq_some_iff.1 hj).1
  rw [hlen] at hjl
  cases i with
  | succ i => simp at hu
  | zero =>
    have e : Value.int k q = u := by simpa using hu
    subst e
    have h := hc j (by omega)
    rw [List.getElem?_take] at hj
    rw [if_pos (by omega)] at hj
    rw [List.getD_eq_getElem?_getD, hj] at h
    simpa [Kd.int, Kd.scalar] using h

theorem row_nil {α : Type} (dk : Kd α) : Kd.C dk w none ([] : List α).length [] := ⟨rfl, by simp, fun h => absurd h (by simp)⟩

theorem open_cells {t e : TypeId} {fuel : Nat} {cs : List Value} {x : DataW H × List MemPlace} (ht : P.underlying t = some (.slice e)) (he : P.underlying e = some (.int k)) (hc : P.cellsOf e = 1) (h : DataW.trod enc P w base (fun _ => true) held fuel t cs = some x) :
    ∃ (A : Option Addr) (c : Nat) (l : List Int), cs = [.slice A l.length c] ∧ Kd.C (Kd.int k) w A l.length l ∧ l.length ≤ c ∧ ∀ y ∈ l, (Lit.int k y).wf = true := by
  rcases open_ints ht he hc h with ⟨rfl, _⟩ | ⟨a, len, cap, zs, rfl, _, hl, hm, hz, _, hcell, hwz⟩
  · exact ⟨none, 0, [], rfl, row_nil _, by simp, by simp⟩
  · simp only [if_true] at hz
    have hlen : (zs.take len).length = len := by rw [List.length_take]; omega
    exact ⟨some a, cap, zs.take len, by rw [hlen], row_of hl hm hz (fun i hi => hcell i (by omega)), by omega, fun y hy => hwz y (List.mem_of_mem_take hy)⟩

theorem open_row {t e : TypeId} (ht : P.underlying t = some (.slice e)) (he : P.underlying e = some (.int k)) (hc : P.cellsOf e = 1) (hv : Value.okWide P w r b0 t v) (h : DataW.Trod enc P w base (fun _ => true) held t v d p) :
    ∃ (A : Option Addr) (c : Nat) (l : List Int), v = .slice A l.length c ∧ Kd.C (Kd.int k) w A l.length l ∧ l.length ≤ c ∧ ∀ x ∈ l, (Lit.int k x).wf = true := by
  obtain ⟨a, len, cap, rfl⟩ := okWide_slice ht hv
  obtain ⟨fuel, hf⟩ := h
  obtain ⟨A, c, l, hcs, hr, hl, hw⟩ := open_cells ht he hc hf
  refine ⟨A, c, l, ?_, hr, hl, hw⟩
  simpa [Value.cells] using hcs

theorem open_ints2 {t : TypeId} {f0 f1 : Field} (hs : P.underlying t = some (.struct #[f0, f1])) (hone : oneCellFields P #[f0, f1] = true) (hC : P.cellsOf t = 2)
    (u0 : P.underlying f0.type = some (.int k0)) (u1 : P.underlying f1.type = some (.int k1)) (hv : Value.okWide P w r b0 t v) (h : DataW.Trod enc P w base (fun _ => true) held t v d p) :
    ∃ n0 n1 : Int, v = .agg #[.int k0 n0, .int k1 n1] ∧ (Lit.int k0 n0).wf = true ∧ (Lit.int k1 n1).wf = true := by
  obtain ⟨v0, v1, y0, y1, n, rfl, rfl, rfl, h0, h1⟩ := open_agg2 hs hone hC hv h
  obtain ⟨n0, e0, _, w0⟩ := DataW.trod_int u0 h0
  obtain ⟨n1, e1, _, w1⟩ := DataW.trod_int u1 h1
  obtain rfl : v0 = .int k0 n0 := by simpa using e0
  obtain rfl : v1 = .int k1 n1 := by simpa using e1
  exact ⟨n0, n1, rfl, w0, w1⟩

theorem open_int_row {t e : TypeId} {f0 f1 : Field} (hs : P.underlying t = some (.struct #[f0, f1])) (hone : oneCellFields P #[f0, f1] = true) (hC : P.cellsOf t = 2)
    (u0 : P.underlying f0.type = some (.int k0)) (u1 : P.underlying f1.type = some (.slice e)) (ue : P.underlying e = some (.int k)) (hc : P.cellsOf e = 1) (hv : Value.okWide P w r b0 t v) (h : DataW.Trod enc P w base (fun _ => true) held t v d p) :
    ∃ (n0 : Int) (A : Option Addr) (c : Nat) (l : List Int), v = .agg #[.int k0 n0, .slice A l.length c] ∧ (Lit.int k0 n0).wf = true ∧ Kd.C (Kd.int k) w A l.length l ∧ l.length ≤ c ∧ ∀ x ∈ l, (Lit.int k x).wf = true := by
  obtain ⟨v0, v1, y0, y1, n, rfl, rfl, rfl, h0, h1⟩ := open_agg2 hs hone hC hv h
  obtain ⟨n0, e0, _, w0⟩ := DataW.trod_int u0 h0
  obtain ⟨A, c, l, e1, hr, hl, hw⟩ := open_cells u1 ue hc h1
  obtain rfl : v0 = .int k0 n0 := by simpa using e0
  obtain rfl : v1 = .slice A l.length c := by simpa using e1
  exact ⟨n0, A, c, l, rfl, w0, hr, hl, hw⟩

theorem open_int_rows2 {t e q : TypeId} {f0 f1 : Field} (hs : P.underlying t = some (.struct #[f0, f1])) (hone : oneCellFields P #[f0, f1] = true) (hC : P.cellsOf t = 2)
    (u0 : P.underlying f0.type = some (.int k0)) (u1 : P.underlying f1.type = some (.slice e)) (ue : P.underlying e = some (.slice q)) (uq : P.underlying q = some (.int k)) (ce : P.cellsOf e = 1) (cq : P.cellsOf q = 1) (hv : Value.okWide P w r b0 t v) (h : DataW.Trod enc P w base (fun _ => true) held t v d p) :
    ∃ (n0 : Int) (A : Option Addr) (c : Nat) (l : List (List Int)), v = .agg #[.int k0 n0, .slice A l.length c] ∧ (Lit.int k0 n0).wf = true ∧ Kd.C (Kd.slice q (Kd.int k)) w A l.length l ∧ l.length ≤ c ∧ ∀ x ∈ l, x.length ≤ maxLen ∧ ∀ y ∈ x, (Lit.int k y).wf = true := by
  obtain ⟨v0, v1, y0, y1, n, rfl, rfl, rfl, h0, h1⟩ := open_agg2 hs hone hC hv h
  obtain ⟨n0, e0, _, w0⟩ := DataW.trod_int u0 h0
  obtain rfl : v0 = .int k0 n0 := by simpa using e0
  rcases open_int_rows u1 ue uq ce cq h1 with ⟨e1, _⟩ | ⟨a, len, cap, A, L, C, Z, e1, _, hl, hm, _, hrow⟩
  · obtain rfl : v1 = .slice none 0 0 := by simpa using e1
    exact ⟨n0, none, 0, [], rfl, w0, row_nil _, by simp, by simp⟩
  · obtain rfl : v1 = .slice (some a) len cap := by simpa using e1
    have hlen : ((List.range len).map fun r => (Z r).take (L r)).length = len := by simp
    refine ⟨n0, some a, cap, (List.range len).map fun r => (Z r).take (L r), by rw [hlen], w0, ?_, by omega, ?_⟩
    · refine ⟨rfl, by unfold maxLen at hm; omega, fun _ => ⟨a, rfl, fun j q' hj => ?_⟩⟩
      have hjl := (List.getElem?_eq_some_iff.1 hj).1
      rw [hlen] at hjl
      obtain ⟨hc0, hLC, hCm, hZ, hwz, hnone, hcell⟩ := hrow j (by omega)
      have hq : q' = (Z j).take (L j) := by
        rw [List.getElem?_map, List.getElem?_range hjl] at hj
        simpa using hj.symm
      have hql : q'.length = L j := by rw [hq, List.length_take]; omega
      refine ⟨[.slice (A j) (L j) (C j)], rfl, ⟨A j, C j, by rw [hql], by omega, ?_⟩, fun i u hu => ?_⟩
      · cases hA : A j with
        | none =>
          have h0 : q'.length = 0 := by have := hnone hA; omega
          obtain rfl : q' = [] := List.eq_nil_of_length_eq_zero h0
          exact row_nil _
        | some a' =>
          rw [hq]
          exact row_of hLC hCm hZ (fun i hi => (hcell a' hA).2 i hi)
      · cases i with
        | succ i => simp at hu
        | zero =>
          have e : Value.slice (A j) (L j) (C j) = u := by simpa using hu
          subst e
          simpa [Kd.slice] using hc0
    · intro x hx
      obtain ⟨j, hj, rfl⟩ := List.mem_map.1 hx
      obtain ⟨hc0, hLC, hCm, hZ, hwz, hnone, hcell⟩ := hrow j (by have := List.mem_range.1 hj; omega)
      refine ⟨?_, fun y hy => hwz y (List.mem_of_mem_take hy)⟩
      rw [List.length_take]
      omega
end
end Go.Proofs.Ytbjgdbgaopgbjaa.Open
