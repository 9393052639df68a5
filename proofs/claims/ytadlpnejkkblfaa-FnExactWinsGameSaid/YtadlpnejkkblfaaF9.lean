/- Plain facts of mine on printed functions: what they answer. No Go, no memory. -/
import Derived.Test.YtadlpnejkkblfaaPx9
import Derived.Test.YtadlpnejkkblfaaEv
import Derived.Test.YtadlpnejkkblfaaF2
import Derived.Test.YtadlpnejkkblfaaF5
import Derived.Test.YtadlpnejkkblfaaGame
import Derived.Test.YtadlpnejkkblfaaGame
namespace Go.Proofs.Ytadlpnejkkblfaa.P
open Go.RowKit Go.Proofs.YtadlpnejkkblfaaW.PrintWords Go.Proofs.YtadlpnejkkblfaaW.PrintLast Go.Proofs.YtadlpnejkkblfaaW.PrintMore
set_option linter.unusedVariables false
set_option linter.unusedSimpArgs false

-- NEEDS Game
theorem spec_WinsGame.ev (n : Int) (L : List (List Int)) (s : List Int) (hL : L.length ≤ 9223372036854775807) (hr : ∀ s ∈ L, s.length ≤ 9223372036854775807) (hn2 : s.length ≤ 9223372036854775807) : Ev (fun k => spec_WinsGame.f k n L s) (if (gameOK n L && setOK n s) = true then (winsG L (maskL s), true) else (false, false)) := by
  unfold spec_WinsGame.f
  have hbad : Ev (fun k => spec_WinsGame.j0 k s true n L) (false, false) := Ev.step (fun k => by rw [spec_WinsGame.j0]) (Ev.pos rfl (Ev.now _))
  refine Ev.bind (spec_gmGood.ev n L hL hr) ?_
  cases h : gameOK n L with
  | false => exact Ev.neg (by decide) hbad
  | true =>
    obtain ⟨h1, h2, h3, h4, h5⟩ := gameOK_iff h
    refine Ev.pos rfl (Ev.bind (spec_voSet.ev n s (by omega) (by omega) hn2) ?_)
    cases hs : setOK n s with
    | false => exact hbad
    | true =>
      refine Ev.step (fun k => by rw [spec_WinsGame.j0]) (Ev.neg (by decide) ?_)
      have hm : maskL s < 2 ^ n.toNat := maskL_lt (fun x hx => by have := setOK_in hs x hx; omega)
      have hl := winsGL_length n.toNat L
      refine Ev.bind (spec_gmAll.ev n L h hr) (Ev.bind (spec_voBits.ev s (fun x hx => by have := setOK_in hs x hx; omega) hn2) (Ev.pos (by omega) (Ev.pos (by show ((maskL s : Nat) : Int) < ((winsGL n.toNat L).length : Int); omega) ((Ev.now _).cast ?_))))
      show (rdOf false (winsGL n.toNat L) ((maskL s : Nat) : Int), true) = (winsG L (maskL s), true)
      rw [rdOf_nat (by omega), winsGL_at]

-- NEEDS Game
theorem impl_WinsGame.ev (n : Int) (L : List (List Int)) (s : List Int) (hL : L.length ≤ 9223372036854775807) (hr : ∀ s ∈ L, s.length ≤ 9223372036854775807) (hn2 : s.length ≤ 9223372036854775807) : Ev (fun k => impl_WinsGame.f k n L s) (if (gameOK n L && setOK n s) = true then (winsG L (maskL s), true) else (false, false)) := by
  unfold impl_WinsGame.f
  have hbad : Ev (fun k => impl_WinsGame.j0 k s true n L) (false, false) := Ev.step (fun k => by rw [impl_WinsGame.j0]) (Ev.pos rfl (Ev.now _))
  refine Ev.bind (impl_IsGame.ev n L hL hr) ?_
  cases h : gameOK n L with
  | false => exact Ev.neg (by decide) hbad
  | true =>
    obtain ⟨h1, h2, h3, h4, h5⟩ := gameOK_iff h
    refine Ev.pos rfl (Ev.bind (impl_isSet.ev n s (by omega) (by omega) hn2) ?_)
    cases hs : setOK n s with
    | false => exact hbad
    | true =>
      refine Ev.step (fun k => by rw [impl_WinsGame.j0]) (Ev.neg (by decide) ?_)
      have hm : maskL s < 2 ^ n.toNat := maskL_lt (fun x hx => by have := setOK_in hs x hx; omega)
      have hl := winsGL_length n.toNat L
      refine Ev.bind (impl_Game_votes.ev n L h hr) (Ev.bind (impl_maskOf.ev s (fun x hx => by have := setOK_in hs x hx; omega) hn2) (Ev.pos (by omega) (Ev.pos (by show ((maskL s : Nat) : Int) < ((winsGL n.toNat L).length : Int); omega) ((Ev.now _).cast ?_))))
      show (rdOf false (winsGL n.toNat L) ((maskL s : Nat) : Int), true) = (winsG L (maskL s), true)
      rw [rdOf_nat (by omega), winsGL_at]

end Go.Proofs.Ytadlpnejkkblfaa.P
