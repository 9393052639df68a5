/- The statement FnExactCommitteeText: whatever the input, the law answers true. No condition beyond what the given card prints: the table that strconv reads is laid as the program's text lays it. -/
import Derived.Test.YtchcpjmdmohngaaDoorRows
import Derived.Test.YtchcpjmdmohngaaDoorTie
import Derived.Test.YtchcpjmdmohngaaDoorCards
import Derived.Test.YtchcpjmdmohngaaDoorOpen
import Derived.Test.YtchcpjmdmohngaaDoorPx2
import Derived.Test.YtchcpjmdmohngaaDoorPureFnExactCommitteeText
import Derived.WalkKit
import Derived.ProofKit
import Derived.OpenShut
import Derived.ShutString
import Derived.ChangeOld
import Derived.Below
import Derived.SizedLaws
import Derived.Carry
import Derived.Lay
import Derived.LaidHandle
import Derived.MakeChecks
import Derived.SevenTiedAt
import Derived.LaidMore
import Derived.JoinedOf
import Derived.Stop.Joined
import Derived.Lib.LaidTab
import Derived.Lib.AppendIntMem
namespace Go.Proofs.YtchcpjmdmohngaaDoor.fnExactCommitteeText
open Go.ChangeShapes Go.WideShapes Go.ChangeAt Go.RowKit
open Go.ChangeMaps (open_string shut_string)
open Go.Proofs.YtchcpjmdmohngaaDoorW.PrintWords Go.Proofs.YtchcpjmdmohngaaDoorW.PrintLast
open Go.Proofs.YtchcpjmdmohngaaDoor.Open Go.Proofs.YtchcpjmdmohngaaDoor.P
set_option linter.unusedVariables false
theorem own : ownKnob Tryd.prog.godebug = none := by kernel_rfl
theorem laidOut : laidOutB Tryd.prog = true := by kernel_rfl
theorem tab_at {W : World} (h : laidMetH Tryd.prog Rows.fnExactCommitteeTextRow.laid W) : Lib.TabIs Tryd.prog W "internal/strconv.uint64pow10" .u64 Lib.pow10Tab := by
  rw [MakeChecks.laidMetH_plain _ _ _ (by kernel_rfl)] at h
  obtain ⟨ps, ⟨g0_, t0_, cs0_, f0_, p0_, q0_, hg0_, ht0_, hv0_, hd0_, ⟨g1_, t1_, cs1_, f1_, p1_, q1_, hg1_, ht1_, hv1_, hd1_, ⟨g2_, t2_, cs2_, f2_, p2_, q2_, hg2_, ht2_, hv2_, hd2_, _, _⟩, _⟩, _⟩, _, _⟩ := h
  obtain rfl := Option.some.inj ((show Tryd.prog.globalNamed "internal/strconv.uint64pow10" = some 1 by kernel_rfl).symm.trans hg2_)
  obtain rfl := Option.some.inj ((show (Tryd.prog.globals[1]?).map (·.type) = some 93 by kernel_rfl).symm.trans ht2_)
  have hdat : (Rows.laid_internal_strconv_uint64pow10 : DataW Unit) = Lib.tabData .u64 Lib.pow10Tab := by rfl
  rw [hdat] at hd2_
  unfold Lib.TabIs
  rw [hv2_, ← Lib.cells_of_tab Tryd.underlying93 Tryd.underlying76 (by kernel_rfl) (by kernel_rfl) hd2_]
theorem door_met (os : Os) (args : Array Value) : laidMetH Tryd.prog Rows.fnExactCommitteeTextRow.laid ((World.laidAll Tryd.prog os Rows.fnExactCommitteeTextRow.laid).forCall (fun _ _ => 0) ⟨#[], args, []⟩).memory := by
  rw [MakeChecks.laidMetH_plain _ _ _ (by kernel_rfl)]
  exact laidMet_laidAll _ (by kernel_rfl) (by kernel_rfl)
set_option maxRecDepth 100000 in
set_option maxHeartbeats 1000000 in
theorem lifted (os : Os) (started : os.Started) (H : Type) (enc : TypeId × Value → H) :
    ReturnsInHanded {} Tryd.checked os 3 .any (fun w args => (Rows.fnExactCommitteeTextSpec.pre enc Tryd.prog Tryd.f3 [] false w args ∧ laidMetH Tryd.prog Rows.fnExactCommitteeTextRow.laid w) ∧ sizedMet enc Tryd.prog Tryd.f3 (OpenSpec.ofChange Rows.fnExactCommitteeTextSpec) false w args) (Rows.fnExactCommitteeTextSpec.post enc Tryd.prog Tryd.f3 false true false false) := by
  refine returnsInHanded_of_change_and (C := Tryd.checked) (X := fun w _ => laidMetH Tryd.prog Rows.fnExactCommitteeTextRow.laid w) (fun _ _ _ hh h => h.of_heap hh) own started (by kernel_rfl) Tryd.func3
    (ChangeSpec.witness_shaped (enc := enc) (C := Tryd.checked) (os := os) (X := fun w _ => laidMetH Tryd.prog Rows.fnExactCommitteeTextRow.laid w) false (World.laidAll Tryd.prog os Rows.fnExactCommitteeTextRow.laid) #[.agg #[.int .i64 0, .slice none 0 0]] 8 (World.laidAll_os _ _ _) (World.shaped_of_ZipB (by kernel_rfl) (by kernel_rfl)) (by kernel_rfl) (by kernel_rfl) (by kernel_rfl) (door_met os _)) ?_
  intro W base args ds gs before hval0 hW hcnd_ hcnd2_ hL hsz0
  have hval : ∀ (j : Nat) t v, Tryd.f3.params[j]? = some t → args[j]? = some v → Value.okWide Tryd.prog W .any base t v := hval0
  have hW' := hW
  obtain ⟨p, q, hA0, hV, rfl, hfz, hnd⟩ := hW
  have hA : DataW.TrodAll enc Tryd.prog W 0 (fun _ => true) true Tryd.f3.params.toList args.toList ds p := hA0
  rw [Tryd.params3] at hA hval
  obtain ⟨v0, vs0, d0, ds0, p0, q0, hargs, rfl, rfl, h0, r0⟩ := trodAll_cons hA
  obtain ⟨rfl, rfl, rfl⟩ := trodAll_nil r0
  obtain rfl : args = #[v0] := by cases args; simp_all
  obtain ⟨rfl, rfl⟩ := trodVars_none hV
  have k0 := h0
  have lt0 : ∀ x ∈ p0, x.block < W.heap.size := by obtain ⟨m, hm⟩ := k0; exact DataW.trod_lt m _ _ _ hm
  obtain ⟨a0_0, A0, c0, l0, rfl, w0_0, hr0, hc0, wf0⟩ := open_int_row Tryd.underlying24 (by kernel_rfl) (by kernel_rfl) Tryd.underlying3 Tryd.underlying22 Tryd.underlying3 (by kernel_rfl) (hval 0 24 v0 rfl rfl) h0
  have hm0 := row_le hr0
  clear hA0 hval0
  obtain ⟨k, hp⟩ := Pure.FnExactCommitteeText a0_0 l0 w0_0 hm0 wf0
  refine (laws_FnExactCommitteeText.callsT k a0_0 _ _ l0 true W hr0 hc0 hp (fun W2_ hb2_ => Lib.tabBelow_of_tabIs (tab_at hL) W2_ hb2_)).mono fun e W' he' => ?_
  obtain ⟨he, bel⟩ := he'
  subst he
  exact ⟨_, rfl, _, _, _, [], _, [], hW', trodAll_mk1 (shut_bool Tryd.underlying4 _), (trodAll_cons_mk (Below.trod laidOut (by kernel_rfl) (of_decide_eq_true (by kernel_rfl)) k0 bel lt0) trodAll_mk0), rfl, bel.frame _, fun h => by cases h⟩
theorem over : Rows.fnExactCommitteeTextRow.holds Tryd.pinned (OpenSpec.ofChange Rows.fnExactCommitteeTextSpec) :=
  OpenClaim.holds_of_wide 3 Tryd.f3 rfl rfl rfl rfl rfl rfl rfl ⟨rfl, rfl, rfl, rfl, rfl⟩ rfl rfl rfl rfl rfl (by kernel_rfl) Tryd.func3 (by kernel_rfl)
    (of_decide_eq_true (by kernel_rfl)) (by unfold Func.isWrapper; first | (rw [if_pos (by decide +kernel)]; kernel_rfl) | (rw [if_neg (by decide +kernel)]; exact ⟨rfl, rfl⟩))
    (fun os started H enc _ => lifted os started H enc)
theorem proved : Rows.FnExactCommitteeTextCardSaid :=
  Claim7.holds_tied_plain_at .later [] [.data, .data, .data] true (true, "b5bd91b5930a72669a66a453b5e2289dba74fcfdec26010b7bcc096aad37b025") true
    over (fun _ h => by cases h) (by kernel_rfl) (fun _ h => by cases h) fnExactCommitteeText_row_tie rfl ⟨rfl, rfl⟩ (by kernel_rfl) rfl
    (fun f fn hf hfn => by
      obtain rfl : f = 3 := Option.some.inj ((show Tryd.prog.funcNamed "loop.example/g01275/laws.FnExactCommitteeText" = some 3 by kernel_rfl).symm.trans hf) |>.symm
      obtain rfl : fn = Tryd.f3 := (Option.some.inj (Tryd.func3.symm.trans hfn)).symm
      exact ⟨by kernel_rfl, fun j t ht => by
        rw [Tryd.params3] at ht
        have hm : t ∈ [24] := by simpa using Array.mem_of_getElem? ht
        have hall : ([24].all fun u => !Tryd.prog.wantsStandIn u) = true := by kernel_rfl
        exact (show Tryd.prog.wantsStandIn t = false by simpa using List.all_eq_true.1 hall t hm)⟩)
    (by kernel_rfl)
#print axioms proved
end Go.Proofs.YtchcpjmdmohngaaDoor.fnExactCommitteeText
namespace Go.Proofs.YtchcpjmdmohngaaDoor
/-- The row, under a short name, for the claim. -/
theorem fnExactCommitteeText_holds : Rows.FnExactCommitteeTextCardSaid := fnExactCommitteeText.proved
end Go.Proofs.YtchcpjmdmohngaaDoor
