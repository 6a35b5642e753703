-- Cut for this claim by a program (wip/prune.py) out of the texts that its bench laid or wrote
import Derived.Deep.RegionWith
import Derived.Test.YtmfacoccojenlaaDoorSlotsQ
import Derived.Test.YtmfacoccojenlaaDoorFBitsA
section
namespace Go.Proofs.YtmfacoccojenlaaDoor.F
open Go.RowKit Go.Proofs.YtmfacoccojenlaaDoorW.PrintWords Go.Proofs.YtmfacoccojenlaaDoorW.PrintLast Go.Proofs.YtmfacoccojenlaaDoorW.PrintMore
set_option linter.unusedSimpArgs false
set_option linter.unusedVariables false
open Go.Proofs.YtmfacoccojenlaaDoor.N (ofN Bits Bits.zero fz cnt)
theorem infoW : (Tryd.prog.info? 44).map (fun i => (i.zero, i.size, i.bytes)) = some (some (.int .u64 0), 1, 8) := by kernel_rfl
def Sl (base : Nat) (W : World) (g : Nat) (v : Value) (ws : List Nat) (l : List Bool) : Prop :=
  W.heap[g]? = some (.cells #[v, .int .i64 (l.length : Int), .int .i64 (cnt l : Int)] 43 (0, 0)) ∧ base ≤ g ∧ Kd.R (Kd.int .u64) 44 W base (fun _ => True) v (ofN ws) ∧ Bits ws l ∧ l.length ≤ 4096
theorem Sl.facts {base : Nat} {W : World} {g : Nat} {v : Value} {ws : List Nat} {l : List Bool} (h : Sl base W g v ws l) :
    ∃ A c, v = .slice A (ofN ws).length c ∧ (ofN ws).length ≤ c ∧ Kd.C (Kd.int .u64) W A (ofN ws).length (ofN ws) ∧ W.cell? ⟨g, 0, none⟩ = some (.slice A (ofN ws).length c) ∧ W.cell? ⟨g, 1, none⟩ = some (.int .i64 (l.length : Int)) ∧ W.cell? ⟨g, 2, none⟩ = some (.int .i64 (cnt l : Int)) := by
  obtain ⟨hb, hg, hR, _, _⟩ := h
  obtain ⟨A, c, rfl, hc, hC⟩ := Kd.R_reads hR
  exact ⟨A, c, rfl, hc, hC, (blk_cell hb 0).trans rfl, (blk_cell hb 1).trans rfl, (blk_cell hb 2).trans rfl⟩
theorem Sl.below {base : Nat} {W W' : World} {g : Nat} {v : Value} {ws : List Nat} {l : List Bool} (h : Sl base W g v ws l) (hb : Below W.heap.size W W') : Sl base W' g v ws l :=
  ⟨blk_below h.1 hb, h.2.1, Kd.R_below h.2.2.1 hb, h.2.2.2⟩
theorem Kd.C_none {α : Type} {d : Kd α} {w : World} {n : Nat} {l : List α} (h : Kd.C d w none n l) : l = [] := by
  have hn : l.length = n := h.1
  cases l with
  | nil => rfl
  | cons x l =>
    exfalso
    obtain ⟨ad, cs, e, _⟩ := ReadsRow.get_ h x 0 (by omega) (by simp at hn; omega)
    cases e
set_option maxHeartbeats 4000000 in
set_option maxRecDepth 100000 in
theorem slots_New.own (n : Nat) (h1 : 1 ≤ n) (h2 : n ≤ 4096) (w : World) : Calls Tryd.prog 6 #[.int .i64 (n : Int)] w fun e w' => ∃ g v, e = .returned (.tuple #[.pointer (some ⟨g, 0, none⟩), .int .i64 0]) ∧ Sl w.heap.size w' g v (List.replicate ((n + 63) / 64) 0) (List.replicate n false) ∧ Below w.heap.size w w' := by
  have hu := Tryd.underlying43
  have b1 : decide ((n : Int) < 1) = false := decide_eq_false (by omega)
  have b2 : decide (4096 < (n : Int)) = false := decide_eq_false (by omega)
  have hz : ofN (List.replicate ((n + 63) / 64) 0) = List.replicate ((n + 63) / 64) 0 := by unfold ofN; simp
  have hcnt : cnt (List.replicate n false) = 0 := by unfold cnt; rw [List.count_replicate]; rfl
  obtain ⟨x, hx⟩ : ∃ x : Int, (n : Int) = x := ⟨_, rfl⟩
  obtain ⟨m, hm⟩ : ∃ m : Nat, m = (n + 63) / 64 := ⟨_, rfl⟩
  have a2 : (x + 63) / 64 = (m : Int) := by omega
  have a4 : 1 ≤ x := by omega
  have a5 : x ≤ 4096 := by omega
  have HX := Aside0.mk hx
  have HM := Aside0.mk hm
  have H2 := Aside0.mk h2
  have HZ := Aside0.mk hz
  have HC := Aside0.mk hcnt
  have HM2 : Aside0 (m ≤ 64) := ⟨by omega⟩
  rw [hx] at b1 b2 ⊢
  clear hz hcnt h1 h2 hx hm
  go_enter Tryd.func6, Tryd.ntmps6
  go_wp2_with (first|((with_reducible refine gate_dst (N := 13) rfl ?_); refine Kd.R_make (Kd.int .u64) (w0 := w) w.heap.size 44 rfl (N := 13) rfl 41 _ _ rfl ((x + 63) / 64) rfl rfl Tryd.underlying41 (.int .u64 0) 8 infoW rfl (by decide) (by omega) 0 (ok := fun _ => True) (okp := fun _ => True) rfl (fun _ hk => hk) trivial (by omega) (by rw [a2]; have := HM2.out; omega) (Below.refl _ _) (Nat.le_refl _) ?_; rw [a2]; intro v1 w1 ho hb hg hn; obtain ⟨A1, c1, rfl⟩ := Kd.R_slice ho; have HO := Aside0.mk ho; have HB := Aside0.mk hb; clear ho hb hg hn))
  go_ret2
  rw [← HM.out]
  refine ⟨w1.heap.size, .slice A1 m c1, rfl, ⟨?_, HB.out.size, ?_, ?_, by rw [List.length_replicate]; exact H2.out⟩, below_alloc HB.out _⟩
  · rw [List.length_replicate, HC.out, HX.out]
    simpa using heap_alloc_new _ _
  · rw [HM.out, HZ.out]
    have ho := HO.out
    rw [List.length_replicate, Int.toNat_natCast] at ho
    rw [← HM.out]
    exact Kd.R_below ho (below_alloc (Below.refl _ _) _)
  · rw [HM.out]; exact Bits.zero n
set_option maxHeartbeats 4000000 in
set_option maxRecDepth 100000 in
theorem slots_New.no (n : Int) (h : n < 1 ∨ 4096 < n) (w : World) : Calls Tryd.prog 6 #[.int .i64 n] w fun e w' => e = .returned (.tuple #[.pointer none, .int .i64 1]) ∧ w' = w := by
  have hu := Tryd.underlying43
  by_cases h1 : n < 1
  · have b1 : decide (n < 1) = true := decide_eq_true h1
    clear h h1
    go_enter Tryd.func6, Tryd.ntmps6
    go_wp2
    go_ret2
    exact ⟨rfl, rfl⟩
  · have b1 : decide (n < 1) = false := decide_eq_false h1
    have b2 : decide (4096 < n) = true := decide_eq_true (h.resolve_left h1)
    clear h h1
    go_enter Tryd.func6, Tryd.ntmps6
    go_wp2
    go_ret2
    exact ⟨rfl, rfl⟩
set_option maxHeartbeats 4000000 in
set_option maxRecDepth 100000 in
theorem slots_Slots_Len.own {base : Nat} {w : World} {g : Nat} {v : Value} {ws : List Nat} {l : List Bool} (h : Sl base w g v ws l) :
    Calls Tryd.prog 12 #[.pointer (some ⟨g, 0, none⟩)] w fun e w' => e = .returned (.int .i64 (cnt l : Int)) ∧ w' = w := by
  have hu := Tryd.underlying43
  obtain ⟨A, c, rfl, hc, hC, h0, h1, h2⟩ := h.facts
  clear h hc hC h0 h1
  go_enter Tryd.func12, Tryd.ntmps12
  go_wp2
  go_ret
  exact ⟨rfl, rfl⟩
set_option maxHeartbeats 4000000 in
set_option maxRecDepth 100000 in
theorem slots_Slots_Has.own {base : Nat} {w : World} {g : Nat} {v : Value} {ws : List Nat} {l : List Bool} (i : Int) (h : Sl base w g v ws l) :
    Calls Tryd.prog 15 #[.pointer (some ⟨g, 0, none⟩), .int .i64 i] w fun e w' => e = .returned (.bool (decide (0 ≤ i) && l.getD i.toNat false)) ∧ Drawn0 w w' := by
  have hu := Tryd.underlying43
  obtain ⟨A, c, rfl, hc, hC, h0, h1, h2⟩ := h.facts
  have HB := Aside0.mk h.2.2.2.1
  clear hc h2
  by_cases c0 : 0 ≤ i
  · have b0 : decide (0 ≤ i) = true := decide_eq_true c0
    rw [b0, Bool.true_and]
    by_cases c1 : i < (l.length : Int)
    · have b1 : decide (i < (l.length : Int)) = true := decide_eq_true c1
      obtain ⟨p, rfl⟩ := Int.eq_ofNat_of_zero_le c0
      have hin := HB.out.in_ (i := p) (by omega)
      have hL : (ofN ws).length = ws.length := N.ofN_length ws
      obtain ⟨ad, rfl, hx⟩ := Kd.at_int hC ((p / 64 : Nat) : Int) (by omega) (by omega)
      rw [N.rd_ofN, Int.toNat_natCast] at hx
      have hb := HB.out.has p
      rw [Int.toNat_natCast]
      have q1 : ((p : Int) / 64) = ((p / 64 : Nat) : Int) := rfl
      have q2 : ((p : Int) % 64) = ((p % 64 : Nat) : Int) := rfl
      have q3 : Int.tdiv (p : Int) 64 = ((p / 64 : Nat) : Int) := by rw [Int.tdiv_eq_ediv_of_nonneg (by omega)]; rfl
      have q4 : Int.tmod (p : Int) 64 = ((p % 64 : Nat) : Int) := by rw [Int.tmod_eq_emod_of_nonneg (by omega)]; rfl
      have q5 : p / 64 < (ofN ws).length := by omega
      have q6 : p / 64 ≤ 64 := by have := h.2.2.2.2; omega
      have q7 : p % 64 < 64 := Nat.mod_lt _ (by decide)
      generalize p / 64 = d at *
      generalize p % 64 = r at *
      generalize ws.getD d 0 = y at *
      have hD : ∀ b : Bool, decide (0 < (if b = true then (1 : Int) else 0)) = b := by intro b; cases b <;> rfl
      have he : decide (0 < bits .and .u64 ((y : Int) / 2 ^ r) 1) = l.getD p false := by
        rw [show (y : Int) / 2 ^ r = ((y / 2 ^ r : Nat) : Int) from by rw [Int.natCast_ediv, Int.natCast_pow]; rfl, ← N.shr_eq _ _ (by omega), hb]
        exact hD _
      clear hb hD
      generalize (p : Int) = x at *
      generalize ofN ws = L at *
      have z1 : decide ((d : Int) < (L.length : Int)) = true := decide_eq_true (by omega)
      have z2 : decide (0 ≤ (d : Int)) = true := decide_eq_true (by omega)
      clear c0 c1 h hC hin hL
      go_enter Tryd.func15, Tryd.ntmps15
      go_wp2
      repeat (go_quiet (fail);try go_wp2)
      go_ret
      exact ⟨by simp [he], by repeat (first | exact Drawn0.refl _ | apply Drawn0.step)⟩
    · have b1 : decide (i < (l.length : Int)) = false := decide_eq_false c1
      have hf : l.getD i.toNat false = false := by
        rw [List.getD_eq_getElem?_getD, List.getElem?_eq_none (by omega)]; rfl
      rw [hf]
      clear c0 c1 h hC hf h0
      go_enter Tryd.func15, Tryd.ntmps15
      go_wp2
      repeat (go_quiet (fail);try go_wp2)
      go_ret
      exact ⟨rfl, by repeat (first | exact Drawn0.refl _ | apply Drawn0.step)⟩
  · have b0 : decide (0 ≤ i) = false := decide_eq_false c0
    rw [b0, Bool.false_and]
    clear c0 h hC h0
    go_enter Tryd.func15, Tryd.ntmps15
    go_wp2
    repeat (go_quiet (fail);try go_wp2)
    go_ret
    exact ⟨rfl, by repeat (first | exact Drawn0.refl _ | apply Drawn0.step)⟩
end Go.Proofs.YtmfacoccojenlaaDoor.F
end
section
namespace Go.Proofs.YtmfacoccojenlaaDoor.F
open Go.RowKit Go.Proofs.YtmfacoccojenlaaDoorW.PrintWords Go.Proofs.YtmfacoccojenlaaDoorW.PrintLast Go.Proofs.YtmfacoccojenlaaDoorW.PrintMore
set_option linter.unusedSimpArgs false
set_option linter.unusedVariables false
theorem last_mono {P : Program} {md : Region.Mode} {ops : Array Oper} {Q : Exit → Act → World → Prop} {S S2 : World → Prop} : ∀ {fuel : Nat} {l : Array Bool} {a : Act} {w : World}, S2 w → (∀ w', S2 w' → S w') → wpAnyLast P md ops Q S2 [] fuel l a w → wpAnyLast P md ops Q S [] fuel l a w := by
  intro fuel
  induction fuel with
  | zero => intro l a w _ _ h; exact h
  | succ fuel ih =>
    intro l a w h2 hi h
    refine ⟨h.1, fun i hr => ?_⟩
    refine wpOp_mono ?_ (h.2 i hr)
    intro a' w' ⟨hs, hn⟩
    have h3 := hs (by simp) h2
    exact ⟨fun _ _ => hi _ h3, ih h3 hi hn⟩
end Go.Proofs.YtmfacoccojenlaaDoor.F
end
