-- Cut for this claim by a program (wip/prune.py) out of the texts that its bench laid or wrote
import Derived.Test.YtmfacoccojenlaaDoorSlotsIt
namespace Go.Proofs.YtmfacoccojenlaaDoor.F
open Go.RowKit Go.Shelf Go.Proofs.YtmfacoccojenlaaDoorW.PrintWords Go.Proofs.YtmfacoccojenlaaDoorW.PrintLast Go.Proofs.YtmfacoccojenlaaDoorW.PrintMore
set_option linter.unusedSimpArgs false
set_option linter.unusedVariables false
open Go.Proofs.YtmfacoccojenlaaDoor.N (ofN Bits fz cnt seqI wordI)
attribute [local go_sem] Oper.semAt_some
theorem infoI : (Tryd.prog.info? 3).map (fun i => (i.zero, i.size, i.bytes)) = some (some (.int .i64 0), 1, 8) := by kernel_rfl
set_option maxHeartbeats 1000000 in
theorem slots_All_in (n : Nat) (p0 : Option Addr) (w : World) :
    CallsIn Fence.wide n Tryd.prog 18 #[.pointer p0] w fun e w' => e = .returned (.func (.func 19) #[] #[.pointer (some ⟨w.heap.size, 0, none⟩)]) ∧ w' = w.alloc (.cells #[.pointer p0] 24) := by
  refine callsIn_of_wp Tryd.func18 rfl trivial ?_ rfl
  simp only [Tryd.ntmps18, List.size_toArray, List.length_cons, List.length_nil, Nat.reduceAdd, Nat.reduceSub, Array.replicate_succ, Array.replicate_zero, List.push_toArray, List.append_toArray, List.nil_append, List.cons_append]
  gi_wp2
  go_ret
  exact ⟨rfl, rfl⟩
theorem slots_stops (n : Nat) (hn : 1 ≤ n) (Bn n₀ B₀ : Nat) (p0 : Option Addr) (xs : List Int) (w : World) (hBn : Bn < w.heap.size) (hn₀ : n₀ ≤ w.heap.size) (hB0 : 0 < B₀) (hc : w.cell? ⟨Bn, 0, none⟩ = some (.pointer p0)) (hI : Its w p0 xs) (HT : Aside0 (Tab w)) :
    SeqStopsK Fence.wide n Tryd.prog 19 #[.pointer (some ⟨Bn, 0, none⟩)] (fun x : Int => #[Value.int .i64 x]) (Kp n₀ B₀) (fun ys => ys = xs) (fun pre => pre <+: xs) xs.length w := fun l J Jx W hW hJ _ hY h0 =>
  slots_all1 n hn l Bn n₀ B₀ p0 xs J Jx hY W (Nat.le_trans hn₀ hW.size) hB0 hJ ((hW.cell (p := ⟨Bn, 0, none⟩) hBn).trans hc) (hI.below hW) (Tab.later HT hW) h0
theorem own_sl {W : World} {b e size n : Nat} {v : Value} {xs : List Value} (h : W.ownsRow b e size v n xs) : ∃ A c, v = .slice A n c := by
  rcases h.2 with ⟨rfl, h0⟩ | ⟨g, cap, cur, rfl, _⟩
  · exact ⟨none, 0, by rw [h0]⟩
  · exact ⟨some ⟨g, 0, none⟩, cap, rfl⟩
theorem kp_append {n₀ B₀ Bo k : Nat} {W W1 : World} {o : Obj} {v v' u : Value} {xs : List Value} (hv : Boxed W Bo 22 u) (hr : W.ownsRow B₀ 3 1 v k xs) (hg : (W.alloc o).grownBy W1 v.ownBlock) (hb : Below B₀ W (W1.setCell ⟨Bo, 0, none⟩ v')) : Kp n₀ B₀ W (W1.setCell ⟨Bo, 0, none⟩ v') := by
  refine ⟨fun i cells hi hc => ?_, hb⟩
  have hlt := (Array.getElem?_eq_some_iff.1 hc).1
  have h1 : (W.alloc o).heap[i]? = some (.cells cells 44 (0, 0)) := by
    rw [(World.grownBy_alloc W o none).block i hlt (by simp)]; exact hc
  have h2 : W1.heap[i]? = some (.cells cells 44 (0, 0)) := by
    rw [hg.block i (by rw [World.size_alloc]; omega) (fun e => by
      obtain ⟨cs, ht⟩ := own_typed hr i e.symm
      rw [hc] at ht
      injection ht with ht
      injection ht with _ ht
      exact absurd ht (by decide))]
    exact h1
  have hne : i ≠ Bo := by
    intro e
    subst e
    have := (show W.heap[i]? = _ from hv).symm.trans hc
    injection this with this
    injection this with _ this
    exact absurd this (by decide)
  rw [((KeepBut.refl W1 Bo none).set_ 0 v').2 i (Array.getElem?_eq_some_iff.1 h2).1 hne (by simp)]
  exact h2
set_option maxRecDepth 100000 in
set_option maxHeartbeats 4000000 in
theorem law_list_in (n : Nat) (hn : 3 ≤ n) (p0 : Option Addr) (xs : List Int) (most : Nat) (w : World) (hI : Its w p0 xs) (HT : Aside0 (Tab w)) (hlen : xs.length ≤ 5000) :
    CallsIn Fence.wide n Tryd.prog 14 #[.pointer p0, .int .i64 (most : Int)] w fun e W' => ∃ v, e = .returned v ∧ Kd.R (Kd.int .i64) 3 W' w.heap.size (fun _ => True) v (xs.take most) ∧ Below w.heap.size w W' := by
  have h1 : 1 ≤ n := by omega
  obtain ⟨i0, hi, hz0, hz1, hz2⟩ := info_parts infoI
  have hW0 : 0 < w.heap.size := HT.out.1
  refine callsIn_of_wp_marks Tryd.func14 rfl trivial ?_ rfl
  simp only [Tryd.ntmps14, List.size_toArray, List.length_cons, List.length_nil, Nat.reduceAdd, Nat.reduceSub, Array.replicate_succ, Array.replicate_zero, List.push_toArray, List.append_toArray, List.nil_append, List.cons_append]
  gi_wp2_with (refine ⟨trivial, ?_⟩; gi_at_call 18; refine (slots_All_in (n - 1) _ _).mono ?_; rintro e w' ⟨rfl, rfl⟩)
  have bM := Boxed.new w 3 (.int .i64 (most : Int))
  have bO := Boxed.new (w.alloc (.cells #[.int .i64 (most : Int)] 3)) 22 (.slice none 0 0)
  have bN := Boxed.new ((w.alloc (.cells #[.int .i64 (most : Int)] 3)).alloc (.cells #[.slice none 0 0] 22)) 24 (.pointer p0)
  simp only [World.size_alloc] at bO bN
  have hB0 : Below w.heap.size w (((w.alloc (.cells #[.int .i64 (most : Int)] 3)).alloc (.cells #[.slice none 0 0] 22)).alloc (.cells #[.pointer p0] 24)) := (((Below.refl _ w).alloc (Nat.le_refl _) _).alloc (by simp) _).alloc (by simp; omega) _
  have hsz : (((w.alloc (.cells #[.int .i64 (most : Int)] 3)).alloc (.cells #[.slice none 0 0] 22)).alloc (.cells #[.pointer p0] 24)).heap.size = w.heap.size + 3 := by simp
  have bM3 := (bM.alloc (.cells #[.slice none 0 0] 22)).alloc (.cells #[.pointer p0] 24)
  have bO3 := bO.alloc (.cells #[.pointer p0] 24)
  have bN3 := bN
  generalize (((w.alloc (.cells #[.int .i64 (most : Int)] 3)).alloc (.cells #[.slice none 0 0] 22)).alloc (.cells #[.pointer p0] 24)) = W3 at hB0 hsz bM3 bO3 bN3 ⊢
  clear bM bO bN
  have hT3 := Tab.later HT hB0
  refine wpIn_rangeFunc_ownG rfl h1 (gf := 19) (lb := #[.pointer (some ⟨w.heap.size + 1 + 1, 0, none⟩)]) rfl trivial (enters_of Tryd.func19 (by kernel_rfl) rfl)
    (slots_stops (n - 1) (by omega) (w.heap.size + 1 + 1) w.heap.size w.heap.size p0 xs W3 (by omega) (by omega) hW0 bN3.cell (hI.below hB0) hT3) (fun h k => h.trans k) (fun W l o o' hl h ho hw => Kp.putObj o' (by omega) h ho hw) (Below.refl _ _) (fun _ => rfl)
    (fun pre W => (∃ v, Boxed W (w.heap.size + 1) 22 v ∧ W.ownsRow (w.heap.size + 3) 3 1 v pre.length (pre.map (Value.int .i64)) ∧ pre.length ≤ most) ∧ (Boxed W w.heap.size 3 (.int .i64 (most : Int)) ∧ Below w.heap.size W3 W))
    (fun c pre W => (c = .exit 0 ∧ ∃ q x, pre = q ++ [x] ∧ q.length = most ∧ ∃ v, Boxed W (w.heap.size + 1) 22 v ∧ W.ownsRow (w.heap.size + 3) 3 1 v q.length (q.map (Value.int .i64)) ∧ q.length ≤ most) ∧ Below w.heap.size W3 W)
    (OwnFrom.and (Own.from (holdsRow_own (w.heap.size + 3) (w.heap.size + 1) 22 3 1 (fun pre : List Int => pre.length) (fun pre => pre.map (Value.int .i64)) (fun pre v => pre.length ≤ most)) _) (OwnFrom.and (Own.from (boxed_own _ _ _) _) (ownFrom_below (by omega) (by omega))))
    (fun c => OwnFrom.and (fun s A B row hs hg hr => ⟨hs.1, by
      obtain ⟨q, x, hq, hl, hv⟩ := hs.2
      exact ⟨q, x, hq, hl, (holdsRow_own (w.heap.size + 3) (w.heap.size + 1) 22 3 1 (fun pre : List Int => pre.length) (fun pre => pre.map (Value.int .i64)) (fun pre v => pre.length ≤ most)) q A B row hv hg (fun r e => (hr r e).2)⟩⟩) (ownFrom_below (by omega) (by omega)))
    ⟨⟨_, bO3, World.ownsRow_nil _ _ _ _, Nat.zero_le _⟩, bM3, Below.refl _ _⟩
    (fun x => { tmps := #[.pointer p0, .int .i64 (most : Int), undef, .pointer (some ⟨w.heap.size, 0, none⟩), .slice none 0 0, .pointer (some ⟨w.heap.size + 1, 0, none⟩), .int .i64 x, .pointer p0, .func (.func 19) #[] #[.pointer (some ⟨w.heap.size + 1 + 1, 0, none⟩)], .int .i64 x, undef, undef, undef, undef, undef, undef, undef, undef, undef], defers := [] }) ?assign ?body ?done ?stop
  case assign =>
    intro l x W K hK
    gi_wp2
    exact hK
  case body =>
    rintro l pre x W ⟨⟨v, hv, hrow, hpm⟩, hm, hB⟩ hlt
    obtain ⟨Av, cv, rfl⟩ := own_sl hrow
    have hc := hv.cell
    have hc2 := hm.cell
    by_cases he : pre.length = most
    · have b1 : ((pre.length : Int) == (most : Int)) = true := beq_iff_eq.mpr (by omega)
      gi_wp2
      exact ⟨KeepsFrom.refl _ _, ⟨rfl, pre, x, rfl, he, _, hv, hrow, hpm⟩, hB⟩
    · have b1 : ((pre.length : Int) == (most : Int)) = false := beq_eq_false_iff_ne.mpr (by omega)
      gi_wp2_with (gi_at_builtin; refine wpListIn_append_own _ rfl _ _ 22 rfl (w.heap.size + 3) 3 i0 (.int .i64 0) 1 8 Tryd.underlying22 hi hz0 hz1 hz2 rfl (by decide) _ _ _ rfl (hrow.alloc _) ⟨W.heap.size, 0, none⟩ 1 1 [.int .i64 x] rfl rfl (cell_one_new _ _ _) (by simp [Value.oneCell']) (by simp only [maxLen]; omega) (by omega) (by have := hB.size; simp; omega) ?_; intro v' w1 hown' hgrow _; obtain ⟨g', cap', rfl⟩ := ownsRow_succ hown'; obtain ⟨hv1, hv2, _, hk2, hb2⟩ := hv.appended (n₀ := w.heap.size) (by decide) (own_less hrow (by omega)) (by have := hB.size; omega) (by omega) (own_less hown' (by omega)) hgrow; have hr2 := hown'.kept (grownBy_setCell' w1 (w.heap.size + 1) (.slice (some ⟨g', 0, none⟩) (pre.length + 1) cap')) (.inr (hv1.not_row (by decide) hown').symm); have hc1 := hv1.cell; have hf1 := hv1.frozen)
      refine ⟨hk2.from _, kp_append hv (own_less hrow (by omega)) hgrow hb2, ⟨⟨_, hv2, by simpa using hr2, by simp; omega⟩, ?_, hB.trans hb2⟩⟩
      exact ((hm.alloc _).kept hgrow (fun e => by have := own_base hrow _ e.symm; omega)).kept (grownBy_setCell' w1 (w.heap.size + 1) _) (fun e => by injection e with e; omega)
  case done =>
    rintro D ys W hD rfl ⟨⟨v, hv, hrow, hpm⟩, _, hB⟩ hK
    have hc := hv.cell
    gi_wp2
    refine ⟨by simp, .inl ⟨_, _, rfl, run_takeDeferred hK, ?_⟩⟩
    exact ⟨_, results_tmp rfl _ _ _, v, rfl, by rw [List.take_of_length_le hpm]; exact Kd.R_of_own (h1 := fun _ => rfl) (own_less (ownsRow_putObj hrow _ hK rfl) (by omega)) (fun _ _ => trivial), hB0.trans (hB.trans (belowK_b (w := w) (Nat.le_refl _) W D _ _ (by omega) hK rfl rfl))⟩
  case stop =>
    rintro D c pre W hD hpre ⟨⟨rfl, q, x, rfl, hq, v, hv, hrow, hpm⟩, hB⟩ hK
    have hc := hv.cell
    have ht : xs.take most = q := by
      obtain ⟨r, hr⟩ := hpre
      rw [← hr, List.append_assoc, ← hq, List.take_left']
      rfl
    gi_wp2
    refine ⟨by simp, .inl ⟨_, _, rfl, run_takeDeferred hK, ?_⟩⟩
    exact ⟨_, results_tmp rfl _ _ _, v, rfl, by rw [ht]; exact Kd.R_of_own (h1 := fun _ => rfl) (own_less (ownsRow_putObj hrow _ hK rfl) (by omega)) (fun _ _ => trivial), hB0.trans (hB.trans (belowK_b (w := w) (Nat.le_refl _) W D _ _ (by omega) hK rfl rfl))⟩
theorem law_list (p0 : Option Addr) (xs : List Int) (most : Nat) (w : World) (hI : Its w p0 xs) (HT : Aside0 (Tab w)) (hlen : xs.length ≤ 5000) :
    Calls Tryd.prog 14 #[.pointer p0, .int .i64 (most : Int)] w fun e W' => ∃ v, e = .returned v ∧ Kd.R (Kd.int .i64) 3 W' w.heap.size (fun _ => True) v (xs.take most) ∧ Below w.heap.size w W' :=
  callsIn_wide.1 (law_list_in 3 (by decide) p0 xs most w hI HT hlen)
end Go.Proofs.YtmfacoccojenlaaDoor.F
