/- Words of mine on rows of bools that a call fills, and on blocks. No condition. -/
import Derived.Test.YtadlpnejkkblfaaBits
import Derived.Deep.RegionWith
import Derived.Lib.SliceRun
namespace Go.Proofs.YtadlpnejkkblfaaW.PrintMore
open Go.RowKit Go.Proofs.YtadlpnejkkblfaaW.PrintWords Go.Proofs.YtadlpnejkkblfaaW.PrintLast
set_option linter.unusedVariables false
def winCells (p : Int → Bool) (N kk : Nat) : Array Value := ((List.range N).map fun (i : Nat) => Value.bool (decide (i < kk) && p i)).toArray
theorem winCells_zero (p : Int → Bool) (N : Nat) : madeCells #[Value.bool false] N = winCells p N 0 := by
  apply Array.ext
  · simp [madeCells, winCells]
  · intro i h1 h2
    simp [madeCells, winCells, Nat.mod_one]
theorem winCells_step (p : Int → Bool) (N kk : Nat) (h : kk < N) : (winCells p N kk).setIfInBounds kk (Value.bool (p kk)) = winCells p N (kk + 1) := by
  apply Array.ext
  · simp [winCells]
  · intro i h1 h2
    have h3 : i < (winCells p N kk).size := by simpa using h1
    rw [Array.getElem_setIfInBounds h3]
    simp only [winCells, List.getElem_toArray, List.getElem_map, List.getElem_range]
    by_cases e : kk = i
    · subst e
      simp
    · simp only [e, if_false]
      have : decide (i < kk) = decide (i < kk + 1) := by
        rw [decide_eq_decide]
        omega
      rw [this]
theorem winCells_at (p : Int → Bool) (N kk i : Nat) (h : i < N) : (winCells p N kk)[i]? = some (.bool (decide (i < kk) && p i)) := by
  simp [winCells, h]
theorem three_blocks (w : World) (o1 o2 o3 : Obj) : (((w.alloc o1).alloc o2).alloc o3).heap[w.heap.size]? = some o1 ∧ (((w.alloc o1).alloc o2).alloc o3).heap[w.heap.size + 1]? = some o2 ∧ (((w.alloc o1).alloc o2).alloc o3).heap[w.heap.size + 1 + 1]? = some o3 := by
  have e1 : (w.alloc o1).heap.size = w.heap.size + 1 := by simp
  have e2 : ((w.alloc o1).alloc o2).heap.size = w.heap.size + 1 + 1 := by simp
  refine ⟨blk_alloc (blk_alloc (blk_new w o1) o2) o3, ?_, ?_⟩
  · rw [← e1]
    exact blk_alloc (blk_new _ o2) o3
  · rw [← e2]
    exact blk_new _ o3
/-- A block all of whose cells are a row's. -/
theorem own_win {W : World} {base g N : Nat} {e : TypeId} (p : Int → Bool) (hb : W.heap[g]? = some (.cells (winCells p N N) e (0, 0))) (hg : base ≤ g) (hN : N ≤ 512) :
    Kd.R Kd.bool e W base (fun _ => True) (.slice (some ⟨g, 0, none⟩) N N) ((List.range N).map fun (i : Nat) => p i) := by
  refine Kd.R_of_own ?_ (fun _ _ => trivial)
  have hl : ((List.range N).map fun (i : Nat) => p i).length = N := by simp
  rw [hl]
  refine ⟨by simp [encs], .inr ⟨g, N, _, rfl, hg, hb, Nat.le_refl _, by unfold maxLen; omega, by simp [winCells], ?_⟩⟩
  rw [Nat.mul_one, List.take_of_length_le (by simp [winCells])]
  simp only [winCells, encs, List.map_map]
  refine List.map_congr_left (fun i hi => ?_)
  have := List.mem_range.1 hi
  simp [this]

/-- The numbers below n of which p holds. -/
def pickI (p : Int → Bool) (n : Nat) : List Int := ((List.range n).filter fun (i : Nat) => p i).map fun (i : Nat) => (i : Int)
theorem pickI_succ (p : Int → Bool) (n : Nat) : pickI p (n + 1) = if p n = true then pickI p n ++ [(n : Int)] else pickI p n := by
  unfold pickI
  rw [List.range_succ, List.filter_append]
  by_cases h : p n = true
  · simp [h]
  · simp [h]
theorem pickI_length (p : Int → Bool) (n : Nat) : (pickI p n).length ≤ n := by
  unfold pickI
  rw [List.length_map]
  exact Nat.le_trans (List.length_filter_le _ _) (by simp)
/-- What a closure over whole numbers is asked: at each number below n, in each world in which what lay in w lies unturned. -/
def PredI (P : Program) (g : Nat) (lb : Array Value) (p : Int → Bool) (n : Int) (w : World) : Prop :=
  ∀ (W : World) (x : Int), 0 ≤ x → x < n → Below w.heap.size w W → Calls P g (#[.int .i64 x] ++ lb) W fun e w' => e = .returned (.bool (p x)) ∧ Below W.heap.size W w'
end Go.Proofs.YtadlpnejkkblfaaW.PrintMore
