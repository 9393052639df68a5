/- Plain words of mine on members that are in each set. No condition. -/
import Derived.Test.YtadlpnejkkblfaaGame
namespace Go.Proofs.YtadlpnejkkblfaaW.PrintMore
open Go.RowKit Go.Proofs.YtadlpnejkkblfaaW.PrintWords Go.Proofs.YtadlpnejkkblfaaW.PrintLast
set_option linter.unusedVariables false
/-- Is x in each set? -/
def needP (L : List (List Int)) (x : Int) : Bool := L.all fun s => decide (x ∈ s)
/-- The members that are in each set. -/
def needC (n : Int) (L : List (List Int)) : List Int := pickI (needP L) n.toNat
/-- The sets' bits, one after another. -/
def needM (m : Nat) (L : List (List Int)) : Nat := L.foldl (fun m s => m &&& maskL s) m
theorem needM_bit (i : Nat) : ∀ (L : List (List Int)) (m : Nat), (needM m L).testBit i = (m.testBit i && L.all fun s => (maskL s).testBit i) := by
  intro L
  induction L with
  | nil => intro m; simp [needM]
  | cons s r ih =>
    intro m
    have h := ih (m &&& maskL s)
    rw [show needM m (s :: r) = needM (m &&& maskL s) r from rfl, h, Nat.testBit_and, List.all_cons, Bool.and_assoc]
theorem needM_le (L : List (List Int)) : ∀ m : Nat, needM m L ≤ m := by
  induction L with
  | nil => intro m; exact Nat.le_refl _
  | cons s r ih => intro m; exact Nat.le_trans (ih (m &&& maskL s)) Nat.and_le_left
theorem needM_take {L : List (List Int)} {i : Nat} (h : i < L.length) (m : Nat) : needM m (L.take (i + 1)) = needM m (L.take i) &&& maskL L[i] := by
  unfold needM
  rw [List.take_succ_eq_append_getElem h, List.foldl_append]
  rfl
theorem pickI_stop (p : Int → Bool) (n d : Nat) (h : ∀ i : Nat, n ≤ i → i < n + d → p (i : Int) = false) : pickI p (n + d) = pickI p n := by
  induction d with
  | zero => rfl
  | succ d ih =>
    rw [← Nat.add_assoc, pickI_succ, h (n + d) (by omega) (by omega), if_neg (by decide)]
    exact ih (fun i h1 h2 => h i h1 (by omega))
theorem bitsL_pick (m : Nat) : ((bitsL m).map fun (i : Nat) => (i : Int)) = pickI (fun x => m.testBit x.toNat) 9 := by
  unfold bitsL pickI
  congr 1
theorem need_same {n : Int} {L : List (List Int)} (h0 : 0 ≤ n) (h9 : n ≤ 9) (hr : rowsOK n L = true) : ((bitsL (needM (2 ^ n.toNat - 1) L)).map fun (i : Nat) => (i : Int)) = needC n L := by
  rw [bitsL_pick]
  have h1 := pickI_stop (fun x => (needM (2 ^ n.toNat - 1) L).testBit x.toNat) n.toNat (9 - n.toNat) (fun i hi _ => by
    show (needM (2 ^ n.toNat - 1) L).testBit (i : Int).toNat = false
    rw [Int.toNat_natCast, needM_bit, Nat.testBit_two_pow_sub_one, decide_eq_false (by omega), Bool.false_and])
  rw [show n.toNat + (9 - n.toNat) = 9 by omega] at h1
  rw [h1]
  unfold needC pickI
  congr 1
  refine List.filter_congr (fun i hi => ?_)
  have hi2 := List.mem_range.1 hi
  show (needM (2 ^ n.toNat - 1) L).testBit (i : Int).toNat = needP L i
  rw [Int.toNat_natCast, needM_bit, Nat.testBit_two_pow_sub_one, decide_eq_true hi2, Bool.true_and]
  unfold needP
  rw [Bool.eq_iff_iff, List.all_eq_true, List.all_eq_true]
  have hin : ∀ s ∈ L, ∀ x ∈ s, 0 ≤ x := fun s hs x hx => (setOK_in (rowsOK_at hr hs).2 x hx).1
  constructor
  · intro h s hs
    have h2 := h s hs
    rw [maskL_bit, List.any_eq_true] at h2
    obtain ⟨x, hx, he⟩ := h2
    have h3 := of_decide_eq_true he
    have h4 := hin s hs x hx
    have : x = (i : Int) := by omega
    subst this
    exact decide_eq_true hx
  · intro h s hs
    have h2 := of_decide_eq_true (h s hs)
    rw [maskL_bit, List.any_eq_true]
    exact ⟨_, h2, decide_eq_true (by omega)⟩
end Go.Proofs.YtadlpnejkkblfaaW.PrintMore
