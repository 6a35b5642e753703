/- The law AliasPicks holds: for every input the call answers true and leaves what it was given as it was. Conditions: none beyond the row's own. -/
import Derived.Test.YtjphoempoinedaaRows
import Derived.Test.YtjphoempoinedaaOpen
import Derived.Test.YtjphoempoinedaaPureAliasPicksM
import Derived.WalkKit
import Derived.ProofKit
import Derived.OpenShut
import Derived.ShutString
import Derived.ChangeOld
import Derived.Below
import Derived.SizedLaws
import Derived.Test.YtjphoempoinedaaWSized
namespace Go.Proofs.Ytjphoempoinedaa.aliasPicks
open Go.ChangeShapes Go.WideShapes Go.ChangeAt Go.RowKit Go.Proofs.Ytjphoempoinedaa.Open Go.Proofs.YtjphoempoinedaaW.PrintWords
open Go.ChangeMaps (open_string shut_string)
set_option linter.unusedVariables false
theorem own : ownKnob Try.prog.godebug = none := by kernel_rfl
theorem laidOut : laidOutB Try.prog = true := by kernel_rfl
set_option maxHeartbeats 8000000 in
theorem closed : joinedFacts Try.pinned.checked.prog 6 Try.f6 Rows.aliasPicksSpec Rows.aliasPicksRow = true := by
  simp only [joinedFacts, Bool.and_eq_true]
  repeat' apply And.intro
  all_goals (as_aux_lemma => kernel_rfl)
set_option maxHeartbeats 2000000 in
set_option maxRecDepth 100000 in
theorem lifted (os : Os) (started : os.Started) (H : Type) (enc : TypeId × Value → H) :
    ReturnsInHanded {} Try.checked os 6 .any (Rows.aliasPicksSpec.pre6 enc Try.prog Try.f6 Rows.aliasPicksRow.domain false) (Rows.aliasPicksSpec.post enc Try.prog Try.f6 false true false false) := by
  refine returnsInHanded_of_change_sized (C := Try.checked) own started (by kernel_rfl) Try.func6
    (ChangeSpec.witness6 (enc := enc) (C := Try.checked) false ⟨#[], #[.agg #[.int .u64 0, .slice none 0 0], .int .u64 0, .int .i64 0, .slice none 0 0], []⟩ 8 (by kernel_rfl) (by kernel_rfl) (by kernel_rfl) (by kernel_rfl)) ?_
  intro W base args ds gs before hval0 hW hcnd hsz0 _
  have hsz : (DataW.weightsEach Try.prog (Try.f6.params.toList ++ Rows.aliasPicksSpec.plain.varTypes Try.prog) (ds ++ gs)).all (· ≤ reachBytes) = true := hsz0
  have hval : ∀ (j : Nat) t v, Try.f6.params[j]? = some t → args[j]? = some v → Value.okWide Try.prog W .any base t v := hval0
  have hW' := hW
  obtain ⟨p, q, hA0, hV, rfl, hfz, hnd⟩ := hW
  have hA : DataW.TrodAll enc Try.prog W 0 (fun _ => true) true Try.f6.params.toList args.toList ds p := hA0
  rw [Try.params6] at hA hval hsz
  obtain ⟨v0, vs0, d0, ds0, p0, q0, hargs, rfl, rfl, h0, r0⟩ := trodAll_cons hA
  obtain ⟨v1, vs1, d1, ds1, p1, q1, rfl, rfl, rfl, h1, r1⟩ := trodAll_cons r0
  obtain ⟨v2, vs2, d2, ds2, p2, q2, rfl, rfl, rfl, h2, r2⟩ := trodAll_cons r1
  obtain ⟨v3, vs3, d3, ds3, p3, q3, rfl, rfl, rfl, h3, r3⟩ := trodAll_cons r2
  obtain ⟨rfl, rfl, rfl⟩ := trodAll_nil r3
  obtain rfl : args = #[v0, v1, v2, v3] := by cases args; simp_all
  obtain ⟨rfl, rfl⟩ := trodVars_none hV
  have k0 := h0
  have lt0 : ∀ x ∈ p0, x.block < W.heap.size := by obtain ⟨m, hm⟩ := k0; exact DataW.trod_lt m _ _ _ hm
  obtain ⟨b0, K0, w0⟩ := opened (opens_struct (fun x : F.S53 => (x.f0, x.f1)) (fun p => ⟨p.1, p.2⟩) (fun _ => rfl) Try.underlying53 (by kernel_rfl) (opens_cons rfl (by kernel_rfl) (opens_int Try.underlying22) (opens_last rfl (by kernel_rfl) (opens_slice F.z107 Try.underlying51 (by kernel_rfl) (opens_struct (fun x : F.S107 => (x.f0, x.f1)) (fun p => ⟨p.1, p.2⟩) (fun _ => rfl) Try.underlying107 (by kernel_rfl) (opens_cons rfl (by kernel_rfl) (opens_int Try.underlying22) (opens_last rfl (by kernel_rfl) (opens_int Try.underlying3)))))))) h0
  obtain ⟨A0_1, c0_1, e0, hc0_1, hr0_1⟩ := F.k53_open K0
  obtain rfl := okWide_agg Try.underlying53 (hval 0 53 v0 rfl rfl) e0
  obtain ⟨a1, rfl, rfl, rfl, w1⟩ := open_int Try.underlying22 (hval 1 22 v1 rfl rfl) h1
  obtain ⟨a2, rfl, rfl, rfl, w2⟩ := open_int Try.underlying3 (hval 2 3 v2 rfl rfl) h2
  have k3 := h3
  have lt3 : ∀ x ∈ p3, x.block < W.heap.size := by obtain ⟨m, hm⟩ := k3; exact DataW.trod_lt m _ _ _ hm
  obtain ⟨aa3, ll3, cc3, rfl⟩ := okWide_slice Try.underlying39 (hval 3 39 v3 rfl rfl)
  have y3 := sized_ints hsz (j := 3) (t := 39) rfl rfl Try.underlying39 Try.underlying22 (by kernel_rfl) (B := 8) (by kernel_rfl) h3
  obtain ⟨l3, ⟨A3, c3, e3, hc3, hr3⟩, w3⟩ := opened (opens_slice (0 : Int) Try.underlying39 (by kernel_rfl) (opens_int Try.underlying22)) h3
  have e3' := List.cons.inj (show [Value.slice aa3 ll3 cc3] = [Value.slice A3 l3.length c3] from e3)
  injection e3'.1 with z0 z1 z2
  subst z0 z1 z2
  clear e3 e3'
  clear hA0 hval0 hsz0 hsz
  refine (N.mainAliasPicks (b0.f0) A0_1 c0_1 (b0.f1) a1 a2 aa3 cc3 l3 W hr0_1 hc0_1 w0 w1 w2 hr3 hc3 w3 y3).mono fun e W' ⟨he, bel⟩ => ?_
  subst he
  exact ⟨_, rfl, _, _, _, [], _, [], hW', trodAll_mk1 (shut_bool Try.underlying4 _), (trodAll_cons_mk (Below.trod laidOut (by kernel_rfl) (of_decide_eq_true (by kernel_rfl)) k0 bel lt0) (trodAll_cons_mk (shut_int Try.underlying22 w1) (trodAll_cons_mk (shut_int Try.underlying3 w2) (trodAll_cons_mk (Below.trod laidOut (by kernel_rfl) (of_decide_eq_true (by kernel_rfl)) k3 bel lt3) trodAll_mk0)))), rfl, bel.frame _, fun h => by cases h⟩
theorem over : Rows.aliasPicksRow.holds Try.pinned (OpenSpec.ofChange Rows.aliasPicksSpec) :=
  OpenClaim.holds_of_wide 6 Try.f6 rfl rfl rfl rfl rfl rfl rfl ⟨rfl, rfl, rfl, rfl, rfl⟩ rfl rfl rfl rfl rfl (by kernel_rfl) Try.func6 closed
    (of_decide_eq_true (by kernel_rfl)) (by unfold Func.isWrapper; first | (rw [if_pos (by decide +kernel)]; kernel_rfl) | (rw [if_neg (by decide +kernel)]; exact ⟨rfl, rfl⟩))
    (fun os started H enc _ => lifted os started H enc)
theorem proved : Rows.AliasPicksSaid := over
#print axioms proved
end Go.Proofs.Ytjphoempoinedaa.aliasPicks
namespace Go.Proofs.Ytjphoempoinedaa
/-- The row, under a short name, for the claim. -/
theorem aliasPicks_holds : Rows.AliasPicksSaid := aliasPicks.proved
end Go.Proofs.Ytjphoempoinedaa
