/- Words of mine for sorting: rows and rows of rows in order; the rows of a call's own behind a sort of them; how a world grows. No condition. -/
import Derived.Test.YtadlpnejkkblfaaWin
import Derived.Test.YtadlpnejkkblfaaEv
import Derived.Shelf.SlSortCmp.NoneTotal
namespace Go.Proofs.YtadlpnejkkblfaaW.PrintMore
open Go.RowKit Go.Proofs.YtadlpnejkkblfaaW.PrintWords Go.Proofs.YtadlpnejkkblfaaW.PrintLast
set_option linter.unusedVariables false
set_option linter.unusedSimpArgs false
/-! ### order -/
/-- An order told by numbers: below, equal, above. -/
structure LinC {α : Type} (c : α → α → Int) : Prop where
  eq0 : ∀ x y, c x y = 0 ↔ x = y
  flip : ∀ x y, c x y < 0 ↔ 0 < c y x
  trans : ∀ x y z, c x y < 0 → c y z < 0 → c x z < 0
def lexC {α : Type} (c : α → α → Int) : List α → List α → Int
  | [], [] => 0
  | [], _ :: _ => -1
  | _ :: _, [] => 1
  | x :: r, y :: s => if c x y = 0 then lexC c r s else c x y
def cI (x y : Int) : Int := if x < y then -1 else if x > y then 1 else 0
theorem cI_lin : LinC cI := by
  constructor
  · intro x y; unfold cI; split
    · omega
    · split <;> omega
  · intro x y; unfold cI; repeat' split
    all_goals omega
  · intro x y z; unfold cI; repeat' split
    all_goals omega
theorem LinC.lex {α : Type} {c : α → α → Int} (h : LinC c) : LinC (lexC c) := by
  constructor
  · intro x
    induction x with
    | nil => intro y; cases y <;> simp [lexC]
    | cons a r ih =>
      intro y
      cases y with
      | nil => simp [lexC]
      | cons b s =>
        unfold lexC
        by_cases e : c a b = 0
        · rw [if_pos e, ih, (h.eq0 a b).1 e]; simp
        · rw [if_neg e]
          constructor
          · intro h0; exact absurd h0 e
          · intro h0; injection h0 with h1 h2; exact absurd ((h.eq0 a b).2 h1) e
  · intro x
    induction x with
    | nil => intro y; cases y <;> simp [lexC]
    | cons a r ih =>
      intro y
      cases y with
      | nil => simp [lexC]
      | cons b s =>
        unfold lexC
        by_cases e : c a b = 0
        · have e2 : c b a = 0 := (h.eq0 b a).2 ((h.eq0 a b).1 e).symm
          rw [if_pos e, if_pos e2]; exact ih s
        · have e2 : c b a ≠ 0 := fun k => e ((h.eq0 a b).2 ((h.eq0 b a).1 k).symm)
          rw [if_neg e, if_neg e2]; exact h.flip a b
  · intro x
    induction x with
    | nil =>
      intro y z h1 h2
      cases y with
      | nil => simp [lexC] at h1
      | cons b s =>
        cases z with
        | nil => simp [lexC] at h2
        | cons d t => simp [lexC]
    | cons a r ih =>
      intro y z h1 h2
      cases y with
      | nil => simp [lexC] at h1
      | cons b s =>
        cases z with
        | nil => simp [lexC] at h2
        | cons d t =>
          unfold lexC at h1 h2 ⊢
          by_cases e : c a b = 0
          · rw [if_pos e] at h1
            have := (h.eq0 a b).1 e
            subst this
            by_cases e2 : c a d = 0
            · rw [if_pos e2] at h2 ⊢
              exact ih s t h1 h2
            · rw [if_neg e2] at h2 ⊢
              exact h2
          · rw [if_neg e] at h1
            by_cases e2 : c b d = 0
            · have := (h.eq0 b d).1 e2
              subst this
              rw [if_neg e]
              exact h1
            · rw [if_neg e2] at h2
              have h3 := h.trans a b d h1 h2
              rw [if_neg (by omega)]
              exact h3
theorem LinC.swo {α β : Type} {c : α → α → Int} (h : LinC c) (f : β → α) : Go.Sort.SWO (ltOf (fun x y : β => c (f x) (f y))) where
  irrefl x := by
    have := (h.eq0 (f x) (f x)).2 rfl
    simp [ltOf, this]
  trans x y z h1 h2 := by
    simp only [ltOf, decide_eq_true_eq] at *
    exact h.trans _ _ _ h1 h2
  ntrans x y z h1 h2 := by
    simp only [ltOf, decide_eq_false_iff_not] at *
    intro h3
    have a1 : ¬ 0 < c (f y) (f x) := fun k => h1 ((h.flip _ _).2 k)
    have a2 : ¬ 0 < c (f z) (f y) := fun k => h2 ((h.flip _ _).2 k)
    by_cases e : c (f x) (f y) = 0
    · rw [(h.eq0 _ _).1 e] at h3
      exact h2 h3
    · have b1 : 0 < c (f x) (f y) := by omega
      have b2 : c (f y) (f x) < 0 := (h.flip _ _).2 b1
      have b3 := h.trans _ _ _ b2 h3
      exact h2 b3
def cmpI : List Int → List Int → Int := lexC cI
def cmpR : List (List Int) → List (List Int) → Int := lexC cmpI
theorem cmpI_lin : LinC cmpI := cI_lin.lex
theorem cmpR_lin : LinC cmpR := cmpI_lin.lex
/-! ### how a world grows -/
theorem grown_of {w w' : World} (hb : Below w.heap.size w w') (hd : w.drawn ≤ w'.drawn) : ∃ q os, w' = Go.Sort.grow (w.drewN q) os := by
  refine ⟨w'.drawn - w.drawn, w'.heap.extract w.heap.size w'.heap.size, ?_⟩
  obtain ⟨h1, h2, h3, h4, h5⟩ := hb
  cases w with
  | mk heap tape drawn os output =>
  cases w' with
  | mk heap' tape' drawn' os' output' =>
  simp only at h1 h2 h3 h4 h5 hd
  subst h1 h2 h3
  simp only [Go.Sort.grow, World.drewN, World.mk.injEq, and_true, true_and]
  refine ⟨?_, by omega⟩
  apply Array.ext_getElem?
  intro k
  rw [Array.getElem?_append]
  split
  · rename_i h; exact h5 k h
  · rename_i h
    rw [Array.getElem?_extract]
    simp only [Nat.min_self]
    split
    · congr 1; omega
    · exact Array.getElem?_eq_none (by omega)
theorem drawn0_grown {w w' : World} (h : Drawn0 w w') : ∃ q os, w' = Go.Sort.grow (w.drewN q) os := by
  obtain ⟨n, rfl⟩ := h
  exact ⟨n, #[], by simp⟩
theorem two_boxes (w : World) (o1 o2 : Obj) : ((w.alloc o1).alloc o2).heap[w.heap.size]? = some o1 ∧ ((w.alloc o1).alloc o2).heap[w.heap.size + 1]? = some o2 := by
  have e1 : (w.alloc o1).heap.size = w.heap.size + 1 := by simp
  refine ⟨blk_alloc (blk_new w o1) o2, ?_⟩
  rw [← e1]
  exact blk_new _ o2
/-! ### a row's elements, and a row again -/
theorem reps_elts {β : Type} {R : β → List Value → Prop} {sz : Nat} : ∀ (xs : List β) (inner : List Value), Reps R sz xs inner → ∃ D : List {p : List Value × β // R p.2 p.1}, D.map (·.1.2) = xs ∧ D.flatMap (·.1.1) = inner
  | [], inner, h => ⟨[], rfl, by have := h.1; simp at this; simp [this]⟩
  | x :: xs, inner, h => by
    have h0 := h.2 0 x rfl
    rw [Nat.zero_mul, List.drop_zero] at h0
    have hr : Reps R sz xs (inner.drop sz) := by
      refine ⟨by rw [List.length_drop, h.1, List.length_cons, Nat.add_mul, Nat.one_mul]; omega, fun j p hj => ?_⟩
      have := h.2 (j + 1) p hj
      rwa [Nat.add_mul, Nat.one_mul, Nat.add_comm, ← List.drop_drop] at this
    obtain ⟨D, h1, h2⟩ := reps_elts xs _ hr
    exact ⟨⟨(inner.take sz, x), h0⟩ :: D, by simp [h1], by simp [h2]⟩
theorem reps_of {β : Type} {R : β → List Value → Prop} {sz : Nat} (hl : ∀ x c, R x c → c.length = sz) : ∀ (D : List (List Value × β)), (∀ p ∈ D, R p.2 p.1) → Reps R sz (D.map (·.2)) (D.flatMap (·.1))
  | [], _ => by simpa using Reps.none R sz
  | p :: D, h => by
    have ih := reps_of hl D (fun q hq => h q (List.mem_cons_of_mem _ hq))
    have hp := h p List.mem_cons_self
    have hl' := hl _ _ hp
    refine ⟨by rw [List.flatMap_cons, List.length_append, ih.1, hl']; simp [Nat.add_mul]; omega, fun j q hq => ?_⟩
    cases j with
    | zero =>
      have : p.2 = q := by simpa using hq
      subst this
      rw [Nat.zero_mul, List.drop_zero, List.flatMap_cons, ← hl', List.take_left']
      · exact hp
      · rfl
    | succ j =>
      have := ih.2 j q (by simpa using hq)
      rwa [List.flatMap_cons, Nat.add_mul, Nat.one_mul, Nat.add_comm, ← List.drop_drop, ← hl', List.drop_left, hl']
/-- A row's block behind a sort of its cells. -/
theorem flat_after {w : World} {g : Nat} {e : TypeId} {cur : Array Value} (hb : w.heap[g]? = some (.cells cur e (0, 0))) (F : Array Value) (hF : F.size ≤ cur.size) (m : Nat) (os : Array Obj) :
    ∃ cur' : Array Value, (Go.Sort.grow (Go.Sort.putRow id (Go.Sort.ahead w m) g 0 F) os).heap[g]? = some (.cells cur' e (0, 0)) ∧ cur'.size = cur.size ∧ cur'.toList.take F.size = F.toList ∧ w.grownBy (Go.Sort.grow (Go.Sort.putRow id (Go.Sort.ahead w m) g 0 F) os) (some g) := by
  have hlt := blk_lt hb
  refine ⟨Go.Sort.putCells id 0 F cur, ?_, by simp [Go.Sort.putCells], ?_, ⟨rfl, rfl, rfl, by simp, ?_⟩⟩
  · rw [Go.Sort.heap_grow_old _ _ (by simpa using hlt)]
    simp [Go.Sort.putRow, Go.Sort.mapBlock, Array.getElem?_modify, hb, Go.Sort.onCells]
  · apply List.ext_getElem?
    intro k
    rw [List.getElem?_take]
    split
    · rename_i hk
      rw [Array.getElem?_toList, Array.getElem?_toList]
      simp only [Go.Sort.putCells, Array.getElem?_mapIdx, Nat.zero_le, true_and, Nat.zero_add, id, Nat.sub_zero]
      rw [Array.getElem?_eq_getElem (show k < cur.size by omega), Option.map_some, if_pos hk, Array.getElem?_eq_getElem hk, getElem!_pos F k hk]
    · rw [List.getElem?_eq_none (by simp; omega)]
  · intro k hk hne
    rw [Go.Sort.heap_grow_old _ _ (by simpa using hk)]
    have : g ≠ k := fun h => hne (by rw [h])
    simp [Go.Sort.putRow, Go.Sort.mapBlock, Array.getElem?_modify, this]
theorem putRow_map {α : Type} [Inhabited α] (enc : α → Value) (w : World) (g off : Nat) (d : Array α) : Go.Sort.putRow enc w g off d = Go.Sort.putRow id w g off (d.map enc) := by
  unfold Go.Sort.putRow
  refine Go.Sort.mapBlock_congr _ _ _ _ (fun c _ _ _ => ?_)
  apply Array.ext_getElem?
  intro k
  simp only [Go.Sort.putCells, Array.getElem?_mapIdx, Array.size_map]
  cases c[k]? with
  | none => rfl
  | some y =>
    simp only [Option.map_some]
    by_cases hk : off ≤ k ∧ k < off + d.size
    · rw [if_pos hk, if_pos hk, getElem!_pos d (k - off) (by omega), getElem!_pos (d.map enc) (k - off) (by simp; omega)]
      simp
    · rw [if_neg hk, if_neg hk]
theorem flatK_toList {α : Type} [Inhabited α] (enc : α → List Value) (k : Nat) (hk : ∀ x, (enc x).length = k) (d : Array α) : (Go.Sort.flatK enc k d).toList = d.toList.flatMap enc := by
  have hR := reps_of (R := fun (x : α) c => c = enc x) (sz := k) (fun x c h => by rw [h, hk]) (d.toList.map fun x => (enc x, x)) (by
    intro p hp
    obtain ⟨x, _, rfl⟩ := List.mem_map.1 hp
    rfl)
  simp only [List.map_map, List.flatMap_map] at hR
  have hid : List.map ((fun p : List Value × α => p.2) ∘ fun x => (enc x, x)) d.toList = d.toList := by
    rw [show ((fun p : List Value × α => p.2) ∘ fun x => (enc x, x)) = id from rfl, List.map_id]
  rw [hid] at hR
  have hlen : (d.toList.flatMap enc).length = d.size * k := by rw [hR.1]; simp
  apply List.ext_getElem?
  intro t
  rcases Nat.lt_or_ge t (d.size * k) with ht | ht
  · have hk0 : 0 < k := by
      rcases Nat.eq_zero_or_pos k with h | h
      · subst h; simp at ht
      · exact h
    have hj : t / k < d.size := Nat.div_lt_of_lt_mul (by rwa [Nat.mul_comm])
    have h2 := hR.2 (t / k) d[t / k] (by simp [hj])
    have hi : t % k < k := Nat.mod_lt _ hk0
    have e2 : (d.toList.flatMap enc)[t]? = (enc d[t / k])[t % k]? := by
      rw [← h2, List.getElem?_take, if_pos hi, List.getElem?_drop]
      congr 1
      have := Nat.div_add_mod t k
      rw [Nat.mul_comm] at this
      omega
    rw [e2, Array.getElem?_toList, Array.getElem?_eq_getElem (by simpa using ht)]
    have := Go.Sort.get_flatK enc k d t ht
    rw [getElem!_pos _ t (by simpa using ht)] at this
    rw [this, getElem!_pos d _ hj, getElem!_pos (enc d[t / k]) _ (by rw [hk]; exact hi), List.getElem?_eq_getElem]
  · rw [List.getElem?_eq_none (by simpa using ht), List.getElem?_eq_none (by omega)]
/-- An element of a row of the call's own: its cells and what they tell. -/
abbrev Elt {β : Type} (d : Kd β) (w : World) (base : Nat) (ok : Nat → Prop) : Type := {p : List Value × β // d.M w base ok p.2 p.1}
theorem R_sort {β : Type} (d : Kd β) {e : Nat} {w : World} {base : Nat} {ok : Nat → Prop} {v : Value} {xs : List β} (h : d.R e w base ok v xs) :
    (v = .slice none 0 0 ∧ xs = []) ∨ ∃ g cap cur, v = .slice (some ⟨g, 0, none⟩) xs.length cap ∧ base ≤ g ∧ w.heap[g]? = some (.cells cur e (0, 0)) ∧ xs.length ≤ cap ∧ cap ≤ maxLen ∧ cur.size = cap * d.sz ∧ ok g ∧
      ∃ D : Array (Elt d w base (fun k => ok k ∧ k ≠ g)), D.size = xs.length ∧ D.toList.map (·.1.2) = xs ∧ cur.toList.take (xs.length * d.sz) = D.toList.flatMap (·.1.1) := by
  obtain ⟨h0, inner, ⟨hl, ho⟩, hr⟩ := h
  rcases ho with ⟨rfl, hn⟩ | ⟨g, cap, cur, rfl, hg, hb, h1, h2, h3, h4⟩
  · exact .inl ⟨rfl, List.length_eq_zero_iff.1 hn⟩
  · refine .inr ⟨g, cap, cur, rfl, hg, hb, h1, h2, h3, h0 g rfl, ?_⟩
    have hr2 := hr.imp_ (R' := d.M w base (fun k => ok k ∧ k ≠ g)) (fun p c hp => d.M_mono (fun k hk => ⟨hk.1, fun e_ => hk.2 (by rw [e_]; rfl)⟩) hp)
    obtain ⟨D, d1, d2⟩ := reps_elts xs inner hr2
    refine ⟨D.toArray, ?_, by simpa using d1, by rw [h4]; simpa using d2.symm⟩
    rw [List.size_toArray, ← d1, List.length_map]
theorem R_sorted {β : Type} (d : Kd β) {e : Nat} {w : World} {base : Nat} {ok : Nat → Prop} {g cap n : Nat} {cur : Array Value} (hg : base ≤ g) (hb : w.heap[g]? = some (.cells cur e (0, 0))) (hn : n ≤ cap) (hm : cap ≤ maxLen) (hs : cur.size = cap * d.sz) (hok : ok g)
    (D : Array (Elt d w base (fun k => ok k ∧ k ≠ g))) (hD : D.size = n) (F : Array Value) (hF : F.toList = D.toList.flatMap (·.1.1)) (m : Nat) (os : Array Obj) :
    d.R e (Go.Sort.grow (Go.Sort.putRow id (Go.Sort.ahead w m) g 0 F) os) base ok (.slice (some ⟨g, 0, none⟩) n cap) (D.toList.map (·.1.2)) ∧ w.grownBy (Go.Sort.grow (Go.Sort.putRow id (Go.Sort.ahead w m) g 0 F) os) (some g) := by
  have hR := reps_of (R := d.M w base (fun k => ok k ∧ k ≠ g)) (sz := d.sz) (fun x c h => d.K_len (d.K_of_M h)) (D.toList.map (·.1)) (by
    intro p hp
    obtain ⟨x, _, rfl⟩ := List.mem_map.1 hp
    exact x.2)
  simp only [List.map_map, List.flatMap_map] at hR
  have hR2 : Reps (d.M w base (fun k => ok k ∧ k ≠ g)) d.sz (D.toList.map (·.1.2)) F.toList := by rw [hF]; exact hR
  have hsz : F.size = n * d.sz := by have := hR2.1; simpa [hD] using this
  obtain ⟨cur', c1, c2, c3, c4⟩ := flat_after hb F (by rw [hsz, hs]; exact Nat.mul_le_mul_right _ hn) m os
  refine ⟨⟨fun k hk => ?_, F.toList, ⟨?_, .inr ⟨g, cap, cur', ?_, hg, c1, ?_, hm, by rw [c2, hs], ?_⟩⟩, hR2.imp_ (fun p c hp => ?_)⟩, c4⟩
  · have : g = k := by simpa [Value.ownBlock] using hk
    exact this ▸ hok
  · simp [hD, hsz]
  · simp [hD]
  · simpa [hD] using hn
  · rw [← c3, hsz]; simp [hD]
  · refine d.M_mono (fun k hk => ⟨hk.1, fun e_ => hk.2 ?_⟩) (Kd.M_step hp (fun k hk hlt => c4.block k hlt (fun e_ => hk.2 (by injection e_))))
    simpa [Value.ownBlock] using e_
/-- Two rows of the call's own whose blocks are of two types. -/
theorem R_sep {α β : Type} {d : Kd α} {d' : Kd β} {e e' : Nat} {w : World} {base base' : Nat} {ok ok' : Nat → Prop} {v v' : Value} {xs : List α} {ys : List β} (h : d.R e w base ok v xs) (h' : d'.R e' w base' ok' v' ys) (ht : ∀ q, q ∈ e' :: d'.E → q ≠ e) : d'.R e' w base' (fun k => ok' k ∧ some k ≠ v.ownBlock) v' ys := by
  refine Kd.R_mono (Kd.R_bound h') (fun k hk => ⟨hk.1, fun e_ => ?_⟩)
  obtain ⟨inner, ho⟩ := Kd.R_own h
  obtain ⟨cells, hc⟩ := own_typed ho k e_.symm
  obtain ⟨_, _, _, q, hq, cells', hc'⟩ := hk
  rw [hc] at hc'
  injection hc' with hc'
  injection hc' with _ hc'
  exact ht q hq hc'.symm
theorem holds_flat {w : World} {g : Nat} {e : TypeId} {cur : Array Value} (hb : w.heap[g]? = some (.cells cur e (0, 0))) (F : Array Value) (hF : cur.toList.take F.size = F.toList) : Go.Sort.Holds id w g 0 F := by
  intro j hj
  rw [Nat.zero_add, blk_cell hb j, getElem!_pos F j hj]
  refine ⟨?_, blk_frozen hb j⟩
  have h1 : (cur.toList.take F.size)[j]? = F.toList[j]? := by rw [hF]
  rw [List.getElem?_take, if_pos hj, Array.getElem?_toList, Array.getElem?_toList, Array.getElem?_eq_getElem hj] at h1
  exact h1
theorem holds_map {α : Type} [Inhabited α] {enc : α → Value} {w : World} {g off : Nat} {d : Array α} (h : Go.Sort.Holds id w g off (d.map enc)) : Go.Sort.Holds enc w g off d := by
  intro j hj
  have := h j (by simpa using hj)
  rw [getElem!_pos (d.map enc) j (by simpa using hj)] at this
  rw [getElem!_pos d j hj]
  simpa using this
/-- The one cell of an element. -/
def oneV {β : Type} {d : Kd β} {w : World} {base : Nat} {ok : Nat → Prop} (x : Elt d w base ok) : Value := x.1.1.headD .nilIface
theorem oneV_eq {β : Type} {d : Kd β} (hd : d.sz = 1) {w : World} {base : Nat} {ok : Nat → Prop} (x : Elt d w base ok) : x.1.1 = [oneV x] := by
  have h := d.K_len (d.K_of_M x.2)
  rw [hd] at h
  unfold oneV
  match x.1.1, h with
  | [u], _ => rfl
theorem flat_one {β : Type} {d : Kd β} (hd : d.sz = 1) {w : World} {base : Nat} {ok : Nat → Prop} (D : Array (Elt d w base ok)) : (D.map oneV).toList = D.toList.flatMap (·.1.1) := by
  rw [Array.toList_map, List.map_eq_flatMap]
  congr 1
  funext x
  rw [oneV_eq hd x]
end Go.Proofs.YtadlpnejkkblfaaW.PrintMore
