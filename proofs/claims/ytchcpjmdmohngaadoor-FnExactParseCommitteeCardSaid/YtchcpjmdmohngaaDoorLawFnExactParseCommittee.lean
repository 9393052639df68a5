/- The statement FnExactParseCommittee: whatever the input, the law answers true. No condition beyond what the given card prints: the table that strconv reads is laid as the program's text lays it. -/
import Derived.Test.YtchcpjmdmohngaaDoorRows
import Derived.Test.YtchcpjmdmohngaaDoorTie
import Derived.Test.YtchcpjmdmohngaaDoorCards
import Derived.Test.YtchcpjmdmohngaaDoorOpen
import Derived.Test.YtchcpjmdmohngaaDoorPx3
import Derived.Test.YtchcpjmdmohngaaDoorPureFnExactParseCommittee
import Derived.WalkKit
import Derived.ProofKit
import Derived.OpenShut
import Derived.ShutString
import Derived.ChangeOld
import Derived.Below
import Derived.SizedLaws
import Derived.Carry
import Derived.Lay
import Derived.LaidHandle
import Derived.MakeChecks
import Derived.SevenTiedAt
import Derived.LaidMore
import Derived.JoinedOf
import Derived.Stop.Joined
import Derived.Lib.LaidTab
import Derived.Lib.AppendIntMem
namespace Go.Proofs.YtchcpjmdmohngaaDoor.fnExactParseCommittee
open Go.ChangeShapes Go.WideShapes Go.ChangeAt Go.RowKit
open Go.ChangeMaps (open_string shut_string)
open Go.Proofs.YtchcpjmdmohngaaDoorW.PrintWords Go.Proofs.YtchcpjmdmohngaaDoorW.PrintLast
open Go.Proofs.YtchcpjmdmohngaaDoor.Open Go.Proofs.YtchcpjmdmohngaaDoor.P
set_option linter.unusedVariables false
theorem own : ownKnob Tryd.prog.godebug = none := by kernel_rfl
theorem laidOut : laidOutB Tryd.prog = true := by kernel_rfl
theorem tab_at {W : World} (h : laidMetH Tryd.prog Rows.fnExactParseCommitteeRow.laid W) : Lib.TabIs Tryd.prog W "internal/strconv.uint64pow10" .u64 Lib.pow10Tab := by
  rw [MakeChecks.laidMetH_plain _ _ _ (by kernel_rfl)] at h
  obtain ⟨ps, ⟨g0_, t0_, cs0_, f0_, p0_, q0_, hg0_, ht0_, hv0_, hd0_, ⟨g1_, t1_, cs1_, f1_, p1_, q1_, hg1_, ht1_, hv1_, hd1_, ⟨g2_, t2_, cs2_, f2_, p2_, q2_, hg2_, ht2_, hv2_, hd2_, _, _⟩, _⟩, _⟩, _, _⟩ := h
  obtain rfl := Option.some.inj ((show Tryd.prog.globalNamed "internal/strconv.uint64pow10" = some 1 by kernel_rfl).symm.trans hg2_)
  obtain rfl := Option.some.inj ((show (Tryd.prog.globals[1]?).map (·.type) = some 93 by kernel_rfl).symm.trans ht2_)
  have hdat : (Rows.laid_internal_strconv_uint64pow10 : DataW Unit) = Lib.tabData .u64 Lib.pow10Tab := by rfl
  rw [hdat] at hd2_
  unfold Lib.TabIs
  rw [hv2_, ← Lib.cells_of_tab Tryd.underlying93 Tryd.underlying76 (by kernel_rfl) (by kernel_rfl) hd2_]
theorem range_at {W : World} (h : laidMetH Tryd.prog Rows.fnExactParseCommitteeRow.laid W) : ∃ ev, W.cell? ⟨3, 0, none⟩ = some ev ∧ (ev = .nilIface ∨ ∃ te pe, ev = .iface te pe) := by
  rw [MakeChecks.laidMetH_plain _ _ _ (by kernel_rfl)] at h
  obtain ⟨ps, ⟨g0_, t0_, cs0_, f0_, p0_, q0_, hg0_, ht0_, hv0_, hd0_, ⟨g1_, t1_, cs1_, f1_, p1_, q1_, hg1_, ht1_, hv1_, hd1_, ⟨g2_, t2_, cs2_, f2_, p2_, q2_, hg2_, ht2_, hv2_, hd2_, ⟨g3_, t3_, cs3_, f3_, p3_, q3_, hg3_, ht3_, hv3_, hd3_, ⟨g4_, t4_, cs4_, f4_, p4_, q4_, hg4_, ht4_, hv4_, hd4_, _, _⟩, _⟩, _⟩, _⟩, _⟩, _, _⟩ := h
  obtain rfl := Option.some.inj ((show Tryd.prog.globalNamed "strconv.ErrRange" = some 3 by kernel_rfl).symm.trans hg4_)
  obtain rfl := Option.some.inj ((show (Tryd.prog.globals[3]?).map (·.type) = some 58 by kernel_rfl).symm.trans ht4_)
  obtain ⟨_, u, v, hcs, _, _⟩ := iface_of_trod Tryd.underlying58 hd4_
  have hc := World.var?_cell hg4_ hv4_ 0
  have e0 : cs4_[0]? = some (.iface u v) := by rw [← Array.getElem?_toList, hcs]; rfl
  exact ⟨_, hc.trans e0, Or.inr ⟨_, _, rfl⟩⟩
theorem syntax_at {W : World} (h : laidMetH Tryd.prog Rows.fnExactParseCommitteeRow.laid W) : ∃ ev, W.cell? ⟨2, 0, none⟩ = some ev ∧ (ev = .nilIface ∨ ∃ te pe, ev = .iface te pe) := by
  rw [MakeChecks.laidMetH_plain _ _ _ (by kernel_rfl)] at h
  obtain ⟨ps, ⟨g0_, t0_, cs0_, f0_, p0_, q0_, hg0_, ht0_, hv0_, hd0_, ⟨g1_, t1_, cs1_, f1_, p1_, q1_, hg1_, ht1_, hv1_, hd1_, ⟨g2_, t2_, cs2_, f2_, p2_, q2_, hg2_, ht2_, hv2_, hd2_, ⟨g3_, t3_, cs3_, f3_, p3_, q3_, hg3_, ht3_, hv3_, hd3_, ⟨g4_, t4_, cs4_, f4_, p4_, q4_, hg4_, ht4_, hv4_, hd4_, ⟨g5_, t5_, cs5_, f5_, p5_, q5_, hg5_, ht5_, hv5_, hd5_, _, _⟩, _⟩, _⟩, _⟩, _⟩, _⟩, _, _⟩ := h
  obtain rfl := Option.some.inj ((show Tryd.prog.globalNamed "strconv.ErrSyntax" = some 2 by kernel_rfl).symm.trans hg5_)
  obtain rfl := Option.some.inj ((show (Tryd.prog.globals[2]?).map (·.type) = some 58 by kernel_rfl).symm.trans ht5_)
  obtain ⟨_, u, v, hcs, _, _⟩ := iface_of_trod Tryd.underlying58 hd5_
  have hc := World.var?_cell hg5_ hv5_ 0
  have e0 : cs5_[0]? = some (.iface u v) := by rw [← Array.getElem?_toList, hcs]; rfl
  exact ⟨_, hc.trans e0, Or.inr ⟨_, _, rfl⟩⟩
theorem env_at {W : World} (hs : W.ShapedOpen Tryd.prog) (h : laidMetH Tryd.prog Rows.fnExactParseCommitteeRow.laid W) : EnvW W := fun W2 hb => by
  obtain ⟨m, hm⟩ := Tryd.laysM145.s1_3 W hs
  obtain ⟨e1, h1, k1⟩ := syntax_at h
  obtain ⟨e2, h2, k2⟩ := range_at h
  exact ⟨Lib.tabBelow_of_tabIs (tab_at h) W2 hb, ⟨m, (hb.cell (World.block_lt_of_cell? _ _ hm)).trans hm⟩, ⟨e1, (hb.cell (World.block_lt_of_cell? _ _ h1)).trans h1, k1⟩, ⟨e2, (hb.cell (World.block_lt_of_cell? _ _ h2)).trans h2, k2⟩⟩
theorem door_met (os : Os) (args : Array Value) : laidMetH Tryd.prog Rows.fnExactParseCommitteeRow.laid ((World.laidAll Tryd.prog os Rows.fnExactParseCommitteeRow.laid).forCall (fun _ _ => 0) ⟨#[], args, []⟩).memory := by
  rw [MakeChecks.laidMetH_plain _ _ _ (by kernel_rfl)]
  exact laidMet_laidAll _ (by kernel_rfl) (by kernel_rfl)
set_option maxRecDepth 100000 in
set_option maxHeartbeats 1000000 in
theorem lifted (os : Os) (started : os.Started) (H : Type) (enc : TypeId × Value → H) :
    ReturnsInHanded {} Tryd.checked os 4 .any (fun w args => (Rows.fnExactParseCommitteeSpec.pre enc Tryd.prog Tryd.f4 [] false w args ∧ laidMetH Tryd.prog Rows.fnExactParseCommitteeRow.laid w) ∧ sizedMet enc Tryd.prog Tryd.f4 (OpenSpec.ofChange Rows.fnExactParseCommitteeSpec) false w args) (Rows.fnExactParseCommitteeSpec.post enc Tryd.prog Tryd.f4 false true false false) := by
  refine returnsInHanded_of_calls (C := Tryd.checked) own started (by kernel_rfl)
    (ChangeSpec.witness_shaped (enc := enc) (C := Tryd.checked) (os := os) (X := fun w _ => laidMetH Tryd.prog Rows.fnExactParseCommitteeRow.laid w) false (World.laidAll Tryd.prog os Rows.fnExactParseCommitteeRow.laid) #[.string ByteArray.empty] 8 (World.laidAll_os _ _ _) (World.shaped_of_ZipB (by kernel_rfl) (by kernel_rfl)) (by kernel_rfl) (by kernel_rfl) (by kernel_rfl) (door_met os _)) ?_
  intro w_ tape_ i_ _ hsh_ _ hok_ hpre_ _
  obtain ⟨_, _, _, fn_, hfn_, _, _, _, _, hval_⟩ := hok_
  obtain rfl : fn_ = Tryd.f4 := Option.some.inj (hfn_.symm.trans Tryd.func4)
  obtain ⟨⟨⟨ds_, gs_, before_, hw_, hc_⟩, hx_⟩, hz_⟩ := hpre_
  have env_ : EnvW (w_.forCall tape_ i_) := env_at hsh_ (hx_.of_heap (by rfl))
  have hz2_ := hz_.weights hw_
  replace hw_ := DataW.Whole.of_heap (w' := w_.forCall tape_ i_) (by rfl) hw_
  refine Calls.mono ?_ (fun e_ W_ (x_ : ∃ v, e_ = .returned v ∧ Rows.fnExactParseCommitteeSpec.post enc Tryd.prog Tryd.f4 false true false false (w_.forCall tape_ i_) i_.args v W_) => by obtain ⟨v_, he_, hp_⟩ := x_; subst he_; exact ChangeSpec.post_blind hp_)
  revert hval_ hw_ hc_ env_ hz2_
  generalize w_.forCall tape_ i_ = W, i_.args = args, ds_ = ds, gs_ = gs, before_ = before, w_.heap.size = base
  intro hval0 hcnd_ env_ hsz0 hW
  have hsz : (DataW.weightsEach Tryd.prog (Tryd.f4.params.toList ++ Rows.fnExactParseCommitteeSpec.plain.varTypes Tryd.prog) (ds ++ gs)).all (· ≤ reachBytes) = true := hsz0
  have hval : ∀ (j : Nat) t v, Tryd.f4.params[j]? = some t → args[j]? = some v → Value.okWide Tryd.prog W .any base t v := hval0
  have hW' := hW
  obtain ⟨p, q, hA0, hV, rfl, hfz, hnd⟩ := hW
  have hA : DataW.TrodAll enc Tryd.prog W 0 (fun _ => true) true Tryd.f4.params.toList args.toList ds p := hA0
  rw [Tryd.params4] at hA hval hsz
  obtain ⟨v0, vs0, d0, ds0, p0, q0, hargs, rfl, rfl, h0, r0⟩ := trodAll_cons hA
  obtain ⟨rfl, rfl, rfl⟩ := trodAll_nil r0
  obtain rfl : args = #[v0] := by cases args; simp_all
  obtain ⟨rfl, rfl⟩ := trodVars_none hV
  obtain ⟨a0, rfl, rfl, rfl, y0⟩ := open_string Tryd.underlying9 (hval 0 9 v0 rfl rfl) h0
  have w0 : a0.size ≤ 140737488351232 := by
    have z := sized_string hsz (j := 0) (t := 9) rfl rfl
    rw [Array.length_toList] at z
    exact z
  clear hA0 hval0 hsz0 hsz
  obtain ⟨k, hp⟩ := Pure.FnExactParseCommittee a0 w0
  refine (laws_FnExactParseCommittee.callsT k a0 true W hp env_).mono fun e W' he' => ?_
  obtain ⟨he, bel⟩ := he'
  subst he
  exact ⟨_, rfl, _, _, _, [], _, [], hW', trodAll_mk1 (shut_bool Tryd.underlying4 _), (trodAll_cons_mk (shut_string Tryd.underlying9 y0) trodAll_mk0), rfl, bel.frame _, fun h => by cases h⟩
theorem over : Rows.fnExactParseCommitteeRow.holds Tryd.pinned (OpenSpec.ofChange Rows.fnExactParseCommitteeSpec) :=
  OpenClaim.holds_of_wide 4 Tryd.f4 rfl rfl rfl rfl rfl rfl rfl ⟨rfl, rfl, rfl, rfl, rfl⟩ rfl rfl rfl rfl rfl (by kernel_rfl) Tryd.func4 (by kernel_rfl)
    (of_decide_eq_true (by kernel_rfl)) (by unfold Func.isWrapper; first | (rw [if_pos (by decide +kernel)]; kernel_rfl) | (rw [if_neg (by decide +kernel)]; exact ⟨rfl, rfl⟩))
    (fun os started H enc _ => lifted os started H enc)
theorem proved : Rows.FnExactParseCommitteeCardSaid :=
  Claim7.holds_tied_plain_at .later [] [.data, .data, .data, .data, .sentinel, .sentinel, .pinned] true (true, "b5bd91b5930a72669a66a453b5e2289dba74fcfdec26010b7bcc096aad37b025") true
    over (fun _ h => by cases h) (by kernel_rfl) (fun _ h => by cases h) fnExactParseCommittee_row_tie rfl ⟨rfl, rfl⟩ (by kernel_rfl) rfl
    (fun f fn hf hfn => by
      obtain rfl : f = 4 := Option.some.inj ((show Tryd.prog.funcNamed "loop.example/g01275/laws.FnExactParseCommittee" = some 4 by kernel_rfl).symm.trans hf) |>.symm
      obtain rfl : fn = Tryd.f4 := (Option.some.inj (Tryd.func4.symm.trans hfn)).symm
      exact ⟨by kernel_rfl, fun j t ht => by
        rw [Tryd.params4] at ht
        have hm : t ∈ [9] := by simpa using Array.mem_of_getElem? ht
        have hall : ([9].all fun u => !Tryd.prog.wantsStandIn u) = true := by kernel_rfl
        exact (show Tryd.prog.wantsStandIn t = false by simpa using List.all_eq_true.1 hall t hm)⟩)
    (by kernel_rfl)
#print axioms proved
end Go.Proofs.YtchcpjmdmohngaaDoor.fnExactParseCommittee
namespace Go.Proofs.YtchcpjmdmohngaaDoor
/-- The row, under a short name, for the claim. -/
theorem fnExactParseCommittee_holds : Rows.FnExactParseCommitteeCardSaid := fnExactParseCommittee.proved
end Go.Proofs.YtchcpjmdmohngaaDoor
