import Derived.Test.YtocgbbhppegccaaDoorRows
import Derived.Test.YtocgbbhppegccaaDoorOpen
import Derived.Test.YtocgbbhppegccaaDoorJournalAdds
import Derived.WalkKit
import Derived.ProofKit
import Derived.OpenShut
import Derived.ShutString
import Derived.ChangeOld
import Derived.Below
import Derived.SizedLaws
import Derived.Test.YtocgbbhppegccaaDoorStrTab
import Derived.Test.YtocgbbhppegccaaDoorCards
import Derived.Test.YtocgbbhppegccaaDoorTie
import Derived.LaidMore
import Derived.Stop.Joined
import Derived.SevenTiedAt
import Derived.Lib.LaidTab
/- The law JournalAdds holds: for every input the call answers true and leaves what it was given as it was. Conditions: none beyond the row's own. -/
namespace Go.Proofs.YtocgbbhppegccaaDoor.journalAdds
open Go.ChangeShapes Go.WideShapes Go.ChangeAt Go.RowKit Go.Proofs.YtocgbbhppegccaaDoor.Open Go.Proofs.YtocgbbhppegccaaDoorW.PrintWords
open Go.ChangeMaps (open_string shut_string)
set_option linter.unusedVariables false
theorem own : ownKnob Tryd.prog.godebug = none := by kernel_rfl
theorem laidOut : laidOutB Tryd.prog = true := by kernel_rfl
set_option maxHeartbeats 8000000 in
theorem closed : joinedFacts Tryd.pinned.checked.prog 5 Tryd.f5 Rows.journalAddsSpec Rows.journalAddsRow = true := by
  simp only [joinedFacts, Bool.and_eq_true]
  repeat' apply And.intro
  all_goals (as_aux_lemma => kernel_rfl)
theorem gVar : Tryd.prog.globalNamed "tombola/trace.names" = some 0 := by kernel_rfl
theorem gType : (Tryd.prog.globals[0]?).map (·.type) = some 54 := by kernel_rfl
theorem cellsE : Tryd.prog.cellsOf 9 = 1 := by kernel_rfl
theorem cellsT : Tryd.prog.cellsOf 54 = 24 := by kernel_rfl
/-- The door's own heap meets the condition: closed facts. -/
theorem door_met (os : Os) (args : Array Value) : laidMetH Tryd.prog Rows.journalAddsRow.laid ((World.doorLaid Tryd.prog 400 os).forCall (fun _ _ => 0) ⟨#[], args, []⟩).memory :=
  laidMetH_of_parts3 (fuel := 8) (laidMet_of_run' 8 (by kernel_rfl) (by kernel_rfl)) (by kernel_rfl) (by kernel_rfl)
theorem laidIs : (Rows.laid_tombola_trace_names : DataW Unit) = .agg (Go.Proofs.YtocgbbhppegccaaDoor.F.nameTab.map fun s => .lit (.string s.data.toList)) := by kernel_rfl
theorem tab_of {W : World} (h : laidMetH Tryd.prog Rows.journalAddsRow.laid W) : Aside0 (Go.Proofs.YtocgbbhppegccaaDoor.F.Tab W) := by
  rw [MakeChecks.laidMetH_plain _ _ _ (by kernel_rfl)] at h
  have h2 : laidMet Tryd.prog (("tombola/trace.names", Rows.laid_tombola_trace_names) :: []) W := h
  rw [laidIs] at h2
  have hl : Go.Proofs.YtocgbbhppegccaaDoor.F.nameTab.length = 24 := by decide
  have hc : ∀ j, j < 24 → W.cell? ⟨0, j, none⟩ = some (.string (Go.Proofs.YtocgbbhppegccaaDoor.F.nameTab.getD j ⟨#[]⟩)) := fun j hj =>
    Go.Proofs.YtocgbbhppegccaaDoor.F.strs_of_head gVar gType Tryd.underlying54 Tryd.underlying9 cellsE cellsT h2 j (by omega)
  exact ⟨⟨World.block_lt_of_cell? W _ (hc 0 (by omega)), hc⟩⟩
set_option maxHeartbeats 2000000 in
set_option maxRecDepth 100000 in
theorem lifted (os : Os) (started : os.Started) (H : Type) (enc : TypeId × Value → H) :
    ReturnsInHanded {} Tryd.checked os 5 .any (fun w args => (Rows.journalAddsSpec.pre enc Tryd.prog Tryd.f5 Rows.journalAddsRow.domain false w args ∧ laidMetH Tryd.prog Rows.journalAddsRow.laid w) ∧ sizedMet enc Tryd.prog Tryd.f5 (OpenSpec.ofChange Rows.journalAddsSpec) false w args) (Rows.journalAddsSpec.post enc Tryd.prog Tryd.f5 false true false false) := by
  refine returnsInHanded_of_change_and (C := Tryd.checked) (X := fun w _ => laidMetH Tryd.prog Rows.journalAddsRow.laid w) (fun _ _ _ hh h => h.of_heap hh) own started (by kernel_rfl) Tryd.func5
    (ChangeSpec.witness_shaped (enc := enc) (C := Tryd.checked) (os := os) (X := fun w _ => laidMetH Tryd.prog Rows.journalAddsRow.laid w) false (World.doorLaid Tryd.prog 400 os) #[.slice none 0 0, .slice none 0 0, .agg #[.int .i64 0, .int .i64 0, .int .i64 0, .int .i64 0]] 8 rfl (World.shaped_of_RefB (by kernel_rfl) (by kernel_rfl)) (by kernel_rfl) (by kernel_rfl) (by kernel_rfl) (door_met os _)) ?_
  intro W base args ds gs before hval0 hW hcnd hsz0 hL _
  have HT := tab_of hL
  have hsz : (DataW.weightsEach Tryd.prog (Tryd.f5.params.toList ++ Rows.journalAddsSpec.plain.varTypes Tryd.prog) (ds ++ gs)).all (· ≤ reachBytes) = true := hsz0
  have hval : ∀ (j : Nat) t v, Tryd.f5.params[j]? = some t → args[j]? = some v → Value.okWide Tryd.prog W .any base t v := hval0
  have hW' := hW
  obtain ⟨p, q, hA0, hV, rfl, hfz, hnd⟩ := hW
  have hA : DataW.TrodAll enc Tryd.prog W 0 (fun _ => true) true Tryd.f5.params.toList args.toList ds p := hA0
  rw [Tryd.params5] at hA hval hsz
  obtain ⟨v0, vs0, d0, ds0, p0, q0, hargs, rfl, rfl, h0, r0⟩ := trodAll_cons hA
  obtain ⟨v1, vs1, d1, ds1, p1, q1, rfl, rfl, rfl, h1, r1⟩ := trodAll_cons r0
  obtain ⟨v2, vs2, d2, ds2, p2, q2, rfl, rfl, rfl, h2, r2⟩ := trodAll_cons r1
  obtain ⟨rfl, rfl, rfl⟩ := trodAll_nil r2
  obtain rfl : args = #[v0, v1, v2] := by cases args; simp_all
  obtain ⟨rfl, rfl⟩ := trodVars_none hV
  have k0 := h0
  have lt0 : ∀ x ∈ p0, x.block < W.heap.size := by obtain ⟨m, hm⟩ := k0; exact DataW.trod_lt m _ _ _ hm
  obtain ⟨aa0, ll0, cc0, rfl⟩ := okWide_slice Tryd.underlying22 (hval 0 22 v0 rfl rfl)
  obtain ⟨l0, ⟨A0, c0, e0, hc0, hr0⟩, w0⟩ := opened (opens_slice F.z29 Tryd.underlying22 (by kernel_rfl) (opens_struct (fun x : F.S29 => (x.f0, x.f1, x.f2, x.f3)) (fun p => ⟨p.1, p.2.1, p.2.2.1, p.2.2.2⟩) (fun _ => rfl) Tryd.underlying29 (by kernel_rfl) (opens_cons rfl (by kernel_rfl) (opens_int Tryd.underlying3) (opens_cons rfl (by kernel_rfl) (opens_int Tryd.underlying3) (opens_cons rfl (by kernel_rfl) (opens_int Tryd.underlying3) (opens_last rfl (by kernel_rfl) (opens_int Tryd.underlying3))))))) h0
  have e0' := List.cons.inj (show [Value.slice aa0 ll0 cc0] = [Value.slice A0 l0.length c0] from e0)
  injection e0'.1 with z0 z1 z2
  subst z0 z1 z2
  clear e0 e0'
  have k1 := h1
  have lt1 : ∀ x ∈ p1, x.block < W.heap.size := by obtain ⟨m, hm⟩ := k1; exact DataW.trod_lt m _ _ _ hm
  obtain ⟨aa1, ll1, cc1, rfl⟩ := okWide_slice Tryd.underlying30 (hval 1 30 v1 rfl rfl)
  have y1 := sized_ints hsz (j := 1) (t := 30) rfl rfl Tryd.underlying30 Tryd.underlying5 (by kernel_rfl) (B := 1) (by kernel_rfl) h1
  obtain ⟨l1, ⟨A1, c1, e1, hc1, hr1⟩, w1⟩ := opened (opens_slice (0 : Int) Tryd.underlying30 (by kernel_rfl) (opens_int Tryd.underlying5)) h1
  have e1' := List.cons.inj (show [Value.slice aa1 ll1 cc1] = [Value.slice A1 l1.length c1] from e1)
  injection e1'.1 with z0 z1 z2
  subst z0 z1 z2
  clear e1 e1'
  have k2 := h2
  have lt2 : ∀ x ∈ p2, x.block < W.heap.size := by obtain ⟨m, hm⟩ := k2; exact DataW.trod_lt m _ _ _ hm
  obtain ⟨b2, K2, w2⟩ := opened (opens_struct (fun x : F.S29 => (x.f0, x.f1, x.f2, x.f3)) (fun p => ⟨p.1, p.2.1, p.2.2.1, p.2.2.2⟩) (fun _ => rfl) Tryd.underlying29 (by kernel_rfl) (opens_cons rfl (by kernel_rfl) (opens_int Tryd.underlying3) (opens_cons rfl (by kernel_rfl) (opens_int Tryd.underlying3) (opens_cons rfl (by kernel_rfl) (opens_int Tryd.underlying3) (opens_last rfl (by kernel_rfl) (opens_int Tryd.underlying3)))))) h2
  obtain e2 := F.k29_open K2
  obtain rfl := okWide_agg Tryd.underlying29 (hval 2 29 v2 rfl rfl) e2
  clear hA0 hval0 hsz0 hsz
  refine (F.mainJournalAdds aa0 cc0 l0 aa1 cc1 l1 (b2.f0) (b2.f1) (b2.f2) (b2.f3) W hr0 hc0 w0 hr1 hc1 w1 y1 w2 HT).mono fun e W' ⟨he, bel⟩ => ?_
  subst he
  exact ⟨_, rfl, _, _, _, [], _, [], hW', trodAll_mk1 (shut_bool Tryd.underlying4 _), (trodAll_cons_mk (Below.trod laidOut (by kernel_rfl) (of_decide_eq_true (by kernel_rfl)) k0 bel lt0) (trodAll_cons_mk (Below.trod laidOut (by kernel_rfl) (of_decide_eq_true (by kernel_rfl)) k1 bel lt1) (trodAll_cons_mk (Below.trod laidOut (by kernel_rfl) (of_decide_eq_true (by kernel_rfl)) k2 bel lt2) trodAll_mk0))), rfl, bel.frame _, fun h => by cases h⟩
theorem over : Rows.journalAddsRow.holds Tryd.pinned (OpenSpec.ofChange Rows.journalAddsSpec) :=
  OpenClaim.holds_of_wide 5 Tryd.f5 rfl rfl rfl rfl rfl rfl rfl ⟨rfl, rfl, rfl, rfl, rfl⟩ rfl rfl rfl rfl rfl (by kernel_rfl) Tryd.func5 closed
    (of_decide_eq_true (by kernel_rfl)) (by unfold Func.isWrapper; first | (rw [if_pos (by decide +kernel)]; kernel_rfl) | (rw [if_neg (by decide +kernel)]; exact ⟨rfl, rfl⟩))
    (fun os started H enc _ => lifted os started H enc)
theorem proved : Rows.JournalAddsSaid := over
theorem card_holds : Rows.JournalAddsCardSaid :=
  Claim7.holds_tied_plain_at .later [] [.data] true (true, "80177c93aecfef83eb10b8b70f08b21866fbd8ae77727796ee34aae781f9057f") false
    proved (fun _ h => by cases h) (by kernel_rfl) (fun _ h => by cases h) journalAdds_row_tie rfl ⟨rfl, rfl⟩ (by kernel_rfl) rfl
    (fun f fn hf hfn => by
      obtain rfl : f = 5 := Option.some.inj ((show Tryd.prog.funcNamed "tombola/tombolalaw46.JournalAdds" = some 5 by kernel_rfl).symm.trans hf) |>.symm
      obtain rfl : fn = Tryd.f5 := (Option.some.inj (Tryd.func5.symm.trans hfn)).symm
      exact ⟨by kernel_rfl, fun j t ht => by
        rw [Tryd.params5] at ht
        have hm : t ∈ [22, 30, 29] := by simpa using Array.mem_of_getElem? ht
        have hall : ([22, 30, 29].all fun u => !Tryd.prog.wantsStandIn u) = true := by kernel_rfl
        exact (show Tryd.prog.wantsStandIn t = false by simpa using List.all_eq_true.1 hall t hm)⟩)
    (by kernel_rfl)
#print axioms card_holds
end Go.Proofs.YtocgbbhppegccaaDoor.journalAdds
namespace Go.Proofs.YtocgbbhppegccaaDoor
/-- The row, under a short name, for the claim. -/
theorem journalAdds_holds : Rows.JournalAddsCardSaid := journalAdds.card_holds
end Go.Proofs.YtocgbbhppegccaaDoor
