/- Plain words of mine on games: sets in order, sets none of which lies in another, chains of sets. No condition. -/
import Derived.Test.YtadlpnejkkblfaaPow
namespace Go.Proofs.YtadlpnejkkblfaaW.PrintMore
open Go.RowKit Go.Proofs.YtadlpnejkkblfaaW.PrintWords Go.Proofs.YtadlpnejkkblfaaW.PrintLast
set_option linter.unusedVariables false
/-- To which of 126 chains a set of nine members belongs. -/
def chainOf (m : Nat) : Nat := (4830020773460196931252941884729481782009688384696501929418984564972624678283578912205418648594586504374783924074667651273656916180556712880364866689761812615668200888188820429263873562641461199568253366509325055701653925693923017733854482242846623276061218976528378802173322336693960738493312635844663827045131265597504183640776765422925772181023306503702571849575117707245691941569188198839939509876735188687273891919555423774016389894696096212976959342780670049208056280157341954004989681110815967414880286788064290018555287964300455876573301855100438415281949141429998048503179840958692672965967968255939438273433530832480227797109893074039686581015699941025506604918765020499337126585374308994776455588889841701969780610914917407765106081968253016157684404140691790173301327360560210130797505042846108656539382918426784640883602651172154923351917322548993865817028852432700543740133180070127613672040017543800907264089269146291422286839827708568843507222283624044562561431902894589487899978888076816151754243100907177922587198421282057874197544433318355322395307228020736 >>> (7 * m)) &&& 127
theorem chain_lt : ((List.range 512).all fun a => Nat.blt (chainOf a) 126) = true := by decide +kernel
theorem chain_all : ((List.range 512).all fun a => (List.range a).all fun b => !(Nat.beq (chainOf a) (chainOf b)) || (Nat.beq (a &&& b) a || Nat.beq (a &&& b) b)) = true := by decide +kernel
theorem chain_le {a b : Nat} (ha : a < 512) (hb : b < a) (h : chainOf a = chainOf b) : a &&& b = a ∨ a &&& b = b := by
  have h1 := List.all_eq_true.1 (List.all_eq_true.1 chain_all a (List.mem_range.2 ha)) b (List.mem_range.2 hb)
  rw [h] at h1
  simpa using h1
theorem pigeon : ∀ (n : Nat) (l : List Nat), l.Nodup → (∀ x ∈ l, x < n) → l.length ≤ n := by
  intro n
  induction n with
  | zero =>
    intro l _ h
    cases l with
    | nil => simp
    | cons x r => exact absurd (h x List.mem_cons_self) (Nat.not_lt_zero _)
  | succ n ih =>
    intro l hd h
    have h1 := ih (l.erase n) (hd.erase n) (fun x hx => by
      have h2 := (hd.mem_erase_iff).1 hx
      have h3 := h x h2.2
      have h4 := h2.1
      omega)
    by_cases hm : n ∈ l
    · rw [List.length_erase_of_mem hm] at h1
      omega
    · rw [List.erase_of_not_mem hm] at h1
      omega
/-- Of sets of nine members none of which lies in another there are at most 126. -/
theorem sperner (l : List Nat) (hl : ∀ x ∈ l, x < 512) (ha : ∀ (i k : Nat) (hi : i < l.length) (hk : k < l.length), k ≠ i → l[i] &&& l[k] ≠ l[k]) : l.length ≤ 126 := by
  have h1 : (l.map chainOf).Nodup := by
    rw [List.nodup_iff_pairwise_ne, List.pairwise_iff_getElem]
    intro i j hi hj hij he
    rw [List.length_map] at hi hj
    rw [List.getElem_map, List.getElem_map] at he
    have a1 := ha i j hi hj (by omega)
    have a2 := ha j i hj hi (by omega)
    rw [Nat.and_comm] at a2
    rcases Nat.lt_trichotomy l[i] l[j] with hlt | heq | hgt
    · rcases chain_le (hl _ (List.getElem_mem hj)) hlt he.symm with h | h
      · rw [Nat.and_comm] at h
        exact a1 h
      · rw [Nat.and_comm] at h
        exact a2 h
    · rw [heq, Nat.and_self] at a1
      exact a1 rfl
    · rcases chain_le (hl _ (List.getElem_mem hi)) hgt he with h | h
      · exact a2 h
      · exact a1 h
  have h2 := pigeon 126 (l.map chainOf) h1 (by
    intro x hx
    obtain ⟨y, hy, rfl⟩ := List.mem_map.1 hx
    have h3 := List.all_eq_true.1 chain_lt y (List.mem_range.2 (hl y hy))
    simpa using h3)
  rwa [List.length_map] at h2


/-- Does a come before b? -/
def ltL : List Int → List Int → Bool
  | [], [] => false
  | [], _ :: _ => true
  | _ :: _, [] => false
  | x :: a, y :: b => if x = y then ltL a b else decide (x < y)
def cmpL : List Int → List Int → Int
  | [], [] => 0
  | [], _ :: _ => -1
  | _ :: _, [] => 1
  | x :: a, y :: b => if x = y then cmpL a b else sgn (x - y)
theorem cmpL_ge : ∀ a b : List Int, decide (cmpL a b ≥ 0) = !(ltL a b) := by
  intro a
  induction a with
  | nil => intro b; cases b <;> rfl
  | cons x a ih =>
    intro b
    cases b with
    | nil => rfl
    | cons y b =>
      unfold cmpL ltL
      by_cases h : x = y
      · rw [if_pos h, if_pos h, ih]
      · rw [if_neg h, if_neg h]
        unfold sgn
        by_cases h2 : x < y
        · rw [if_neg (by omega), if_pos (by omega)]
          simp [h2]
        · rw [if_pos (by omega)]
          simp [h2]
/-- Sets of n members, none of them empty. -/
def rowsOK (n : Int) (L : List (List Int)) : Bool := L.all fun s => !(decide (s.length = 0)) && setOK n s
def maskR (L : List (List Int)) (i : Nat) : Nat := maskL (L.getD i [])
def riseR (L : List (List Int)) (i : Nat) : Bool := decide (i = 0) || ltL (L.getD (i - 1) []) (L.getD i [])
def freeI (L : List (List Int)) (i k : Nat) : Bool := decide (k = i) || !(decide (maskR L i &&& maskR L k = maskR L k))
def freeS (L : List (List Int)) (i k : Nat) : Bool := !(decide (maskR L i &&& maskR L k = maskR L i)) && !(decide (maskR L i &&& maskR L k = maskR L k))
def stepI (L : List (List Int)) (i : Nat) : Bool := riseR L i && (List.range L.length).all (freeI L i)
def stepS (L : List (List Int)) (i : Nat) : Bool := riseR L i && (List.range i).all (freeS L i)
/-- Is (n, L) a game? -/
def gameOK (n : Int) (L : List (List Int)) : Bool := inB 1 9 n && !(decide (L.length = 0)) && rowsOK n L && (List.range L.length).all (stepI L)
theorem rowL_at {L : List (List Int)} {i : Nat} (h : i < L.length) : L.getD i [] = L[i] := by simp [h]
theorem rowsOK_at {n : Int} {L : List (List Int)} (h : rowsOK n L = true) {s : List Int} (hs : s ∈ L) : 1 ≤ s.length ∧ setOK n s = true := by
  have h1 := List.all_eq_true.1 h s hs
  simp only [Bool.and_eq_true, Bool.not_eq_true', decide_eq_false_iff_not] at h1
  exact ⟨by omega, h1.2⟩
theorem setOK_in {n : Int} {s : List Int} (h : setOK n s = true) : ∀ x ∈ s, 0 ≤ x ∧ x ≤ n - 1 := by
  unfold setOK at h
  rw [Bool.and_eq_true] at h
  exact fun x hx => inB_iff.1 (List.all_eq_true.1 h.1 x hx)
theorem mask_512 {n : Int} (h9 : n ≤ 9) {s : List Int} (h : setOK n s = true) : maskL s < 512 := by
  have := maskL_lt (l := s) (n := 9) (fun x hx => by have := setOK_in h x hx; omega)
  exact this
theorem maskR_512 {n : Int} (h9 : n ≤ 9) {L : List (List Int)} (h : rowsOK n L = true) {i : Nat} (hi : i < L.length) : maskR L i < 512 := by
  unfold maskR
  rw [rowL_at hi]
  exact mask_512 h9 (rowsOK_at h (List.getElem_mem hi)).2
theorem steps_same {n : Int} (h9 : n ≤ 9) {L : List (List Int)} (h : rowsOK n L = true) : (List.range L.length).all (stepI L) = (decide (L.length ≤ 126) && (List.range L.length).all (stepS L)) := by
  rw [Bool.eq_iff_iff]
  simp only [List.all_eq_true, List.mem_range, stepI, stepS, freeI, freeS, Bool.and_eq_true, Bool.or_eq_true, Bool.not_eq_true', decide_eq_true_eq, decide_eq_false_iff_not]
  constructor
  · intro h1
    refine ⟨?_, fun i hi => ⟨(h1 i hi).1, fun k hk => ⟨?_, ?_⟩⟩⟩
    · have hs := sperner ((List.range L.length).map (maskR L)) (by
        intro x hx
        obtain ⟨i, hi, rfl⟩ := List.mem_map.1 hx
        exact maskR_512 h9 h (List.mem_range.1 hi)) (by
        intro i k hi hk hki
        simp only [List.length_map, List.length_range] at hi hk
        simp only [List.getElem_map, List.getElem_range]
        rcases (h1 i hi).2 k hk with h2 | h2
        · exact absurd h2 hki
        · exact h2)
      simpa using hs
    · rcases (h1 k (by omega)).2 i hi with h2 | h2
      · omega
      · rwa [Nat.and_comm] at h2
    · rcases (h1 i hi).2 k (by omega) with h2 | h2
      · omega
      · exact h2
  · rintro ⟨-, h1⟩ i hi
    refine ⟨(h1 i hi).1, fun k hk => ?_⟩
    rcases Nat.lt_trichotomy k i with h2 | h2 | h2
    · exact .inr ((h1 i hi).2 k h2).2
    · exact .inl h2
    · have h3 := ((h1 k hk).2 i h2).1
      rw [Nat.and_comm] at h3
      exact .inr h3
/-- How many numbers a list of rows holds, with a place for each row. -/
def sizeR : List (List Int) → Int
  | [] => 0
  | s :: r => s.length + sizeR r
theorem sizeR_nonneg (L : List (List Int)) : 0 ≤ sizeR L := by
  induction L with
  | nil => simp [sizeR]
  | cons s r ih => unfold sizeR; omega
theorem sizeR_mem {L : List (List Int)} {s : List Int} (h : s ∈ L) : (s.length : Int) ≤ sizeR L := by
  induction L with
  | nil => simp at h
  | cons a r ih =>
    unfold sizeR
    have := sizeR_nonneg r
    rcases List.mem_cons.1 h with rfl | h
    · omega
    · have := ih h
      omega
theorem sizeR_drop {L : List (List Int)} {i : Nat} (h : i < L.length) : sizeR (L.drop i) = (L[i]).length + sizeR (L.drop (i + 1)) := by
  rw [List.drop_eq_getElem_cons h]
  rfl
/-- Does the set told by x win? -/
def winsG (L : List (List Int)) (x : Nat) : Bool := L.any fun s => decide (x &&& maskL s = maskL s)
def winsGL (n : Nat) (L : List (List Int)) : List Bool := (List.range (2 ^ n)).map (winsG L)
theorem winsGL_length (n : Nat) (L : List (List Int)) : (winsGL n L).length = 2 ^ n := by simp [winsGL]
theorem winsGL_at {n : Nat} {L : List (List Int)} {m : Nat} (h : m < (winsGL n L).length) : (winsGL n L)[m] = winsG L m := by simp [winsGL]
theorem gameOK_iff {n : Int} {L : List (List Int)} (h : gameOK n L = true) : 1 ≤ n ∧ n ≤ 9 ∧ rowsOK n L = true ∧ 1 ≤ L.length ∧ L.length ≤ 126 := by
  simp only [gameOK, Bool.and_eq_true, inB_iff, Bool.not_eq_true', decide_eq_false_iff_not] at h
  obtain ⟨⟨⟨h1, h2⟩, h3⟩, h4⟩ := h
  rw [steps_same h1.2 h3, Bool.and_eq_true, decide_eq_true_eq] at h4
  exact ⟨h1.1, h1.2, h3, by omega, h4.1⟩
/-- A row of bools that is filled from the left: p below i, b at i. -/
def fillB (p : Nat → Bool) (N i : Nat) (b : Bool) : List Bool := (List.range N).map fun j => if j < i then p j else if j = i then b else false
theorem fillB_length (p : Nat → Bool) (N i : Nat) (b : Bool) : (fillB p N i b).length = N := by simp [fillB]
theorem fillB_zero (p : Nat → Bool) (N : Nat) : fillB p N 0 false = List.replicate N false := by
  apply List.ext_getElem
  · simp [fillB]
  · intro i h1 h2
    simp [fillB]
theorem fillB_end (p : Nat → Bool) (N : Nat) (b : Bool) : fillB p N N b = (List.range N).map p := by
  unfold fillB
  refine List.map_congr_left (fun i hi => ?_)
  rw [if_pos (List.mem_range.1 hi)]
theorem fillB_at {p : Nat → Bool} {N i : Nat} {b : Bool} (h : i < N) : rdOf false (fillB p N i b) (i : Int) = b := by
  rw [rdOf_nat (by rw [fillB_length]; exact h)]
  simp [fillB]
theorem fillB_set {p : Nat → Bool} {N i : Nat} {b c : Bool} (h : i < N) : (fillB p N i b).set i c = fillB p N i c := by
  apply List.ext_getElem
  · simp [fillB]
  · intro j h1 h2
    rw [List.getElem_set]
    by_cases e : i = j
    · subst e
      simp [fillB]
    · rw [if_neg e]
      simp [fillB, show ¬ j = i by omega]
theorem fillB_next (p : Nat → Bool) (N i : Nat) : fillB p N i (p i) = fillB p N (i + 1) false := by
  unfold fillB
  refine List.map_congr_left (fun j hj => ?_)
  by_cases h : j < i
  · rw [if_pos h, if_pos (by omega)]
  · rw [if_neg h]
    by_cases e : j = i
    · subst e
      rw [if_pos rfl, if_pos (by omega)]
    · rw [if_neg e, if_neg (by omega)]
      simp
def dualL (ws : List Bool) : List Bool := (List.range ws.length).map fun i => !(ws.getD (ws.length - 1 - i) false)
theorem dualL_length (ws : List Bool) : (dualL ws).length = ws.length := by simp [dualL]
theorem dual_strong (ws : List Bool) (N : Nat) (hN : ws.length = N) : properL (dualL ws) N = strongL ws N := by
  unfold properL strongL
  rw [Bool.eq_iff_iff, List.all_eq_true, List.all_eq_true]
  have key : ∀ m, m < N → (dualL ws).getD m false = !(ws.getD (N - 1 - m) false) := fun m hm => by
    have h1 : m < (dualL ws).length := by rw [dualL_length]; omega
    rw [getD_at h1]
    simp [dualL, hN]
  have key2 : ∀ m ∈ List.range N, (!((dualL ws).getD m false && (dualL ws).getD (N - 1 - m) false)) = (ws.getD m false || ws.getD (N - 1 - m) false) := fun m hm => by
    have h1 := List.mem_range.1 hm
    rw [key m h1, key (N - 1 - m) (by omega), show N - 1 - (N - 1 - m) = m by omega]
    cases ws.getD m false <;> cases ws.getD (N - 1 - m) false <;> rfl
  constructor
  · intro h m hm
    rw [← key2 m hm]
    exact h m hm
  · intro h m hm
    rw [key2 m hm]
    exact h m hm
end Go.Proofs.YtadlpnejkkblfaaW.PrintMore
