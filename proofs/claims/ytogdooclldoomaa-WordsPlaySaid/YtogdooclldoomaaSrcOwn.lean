import Derived.Deep.RegionWith
import Derived.Test.YtogdooclldoomaaSrc
namespace Go.Proofs.Ytogdooclldoomaa.F
open Go.RowKit Go.Proofs.YtogdooclldoomaaW.PrintWords Go.Proofs.YtogdooclldoomaaW.PrintLast Go.Proofs.YtogdooclldoomaaW.PrintMore
set_option linter.unusedSimpArgs false
set_option linter.unusedVariables false
/-! The methods of a source that is the call's own (its list may be newer than itself). -/
theorem Src.facts {base : Nat} {ok : Nat → Prop} {W : World} {g : Nat} {v : Value} {l : List Int} {at_ : Int} (h : Src base ok W g v l at_) :
    ∃ A c, v = .slice A l.length c ∧ l.length ≤ c ∧ Kd.C (Kd.int .u64) W A l.length l ∧ W.cell? ⟨g, 0, none⟩ = some (.slice A l.length c) ∧ W.cell? ⟨g, 1, none⟩ = some (.int .i64 at_) ∧ W.frozen? ⟨g, 0, none⟩ = false ∧ W.frozen? ⟨g, 1, none⟩ = false := by
  obtain ⟨hb, hg, hR⟩ := h
  obtain ⟨A, c, rfl, hc, hC⟩ := Kd.R_reads hR
  exact ⟨A, c, rfl, hc, hC, (blk_cell hb 0).trans rfl, (blk_cell hb 1).trans rfl, blk_frozen hb 0, blk_frozen hb 1⟩
/-- Where it stands is set. -/
theorem Src.move {base : Nat} {ok : Nat → Prop} {W : World} {g : Nat} {v : Value} {l : List Int} {at_ : Int} (h : Src base ok W g v l at_) (x : Int) : Src base ok (W.setCell ⟨g, 1, none⟩ (.int .i64 x)) g v l x :=
  ⟨by simpa using blk_set h.1 1 (.int .i64 x), h.2.1, Kd.R_set h.2.2 h.1 (by simp [Kd.int, Kd.scalar]) 1 _⟩
set_option maxHeartbeats 4000000 in
set_option maxRecDepth 100000 in
theorem words_Source_At.own {base : Nat} {ok : Nat → Prop} {w : World} {g : Nat} {v : Value} {l : List Int} {at_ : Int} (h : Src base ok w g v l at_) :
    Calls Try.prog 50 #[.pointer (some ⟨g, 0, none⟩)] w fun e w' => e = .returned (.int .i64 at_) ∧ Drawn0 w w' := by
  obtain ⟨A, c, rfl, hc, hC, h0, h1, f0, f1⟩ := h.facts
  clear h hc hC
  go_enter Try.func50, Try.ntmps50
  go_wp2
  go_ret
  exact ⟨rfl, by repeat (first | exact Drawn0.refl _ | apply Drawn0.step)⟩
set_option maxHeartbeats 4000000 in
set_option maxRecDepth 100000 in
theorem words_Source_Left.own {base : Nat} {ok : Nat → Prop} {w : World} {g : Nat} {v : Value} {l : List Int} {at_ : Int} (h : Src base ok w g v l at_) :
    Calls Try.prog 51 #[.pointer (some ⟨g, 0, none⟩)] w fun e w' => e = .returned (.int .i64 (wrap64 ((l.length : Int) - at_))) ∧ Drawn0 w w' := by
  obtain ⟨A, c, rfl, hc, hC, h0, h1, f0, f1⟩ := h.facts
  clear h hc hC
  go_enter Try.func51, Try.ntmps51
  go_wp2
  repeat (go_quiet (fail);try go_wp2)
  go_ret
  exact ⟨rfl, by repeat (first | exact Drawn0.refl _ | apply Drawn0.step)⟩
set_option maxHeartbeats 4000000 in
set_option maxRecDepth 100000 in
theorem words_Source_Seek.own {base : Nat} {ok : Nat → Prop} {w : World} {g : Nat} {v : Value} {l : List Int} {at_ : Int} (x : Int) (h : Src base ok w g v l at_) :
    Calls Try.prog 45 #[.pointer (some ⟨g, 0, none⟩), .int .i64 x] w fun e w' => if 0 ≤ x ∧ x ≤ (l.length : Int) then e = .returned (.int .i64 0) ∧ w' = w.setCell ⟨g, 1, none⟩ (.int .i64 x) else e = .returned (.int .i64 6) ∧ w' = w := by
  obtain ⟨A, c, rfl, hc, hC, h0, h1, f0, f1⟩ := h.facts
  clear h hc hC
  by_cases c1 : x < 0
  · rw [show (fun (e : Ending) (w' : World) => if 0 ≤ x ∧ x ≤ (l.length : Int) then e = .returned (.int .i64 0) ∧ w' = w.setCell ⟨g, 1, none⟩ (.int .i64 x) else e = .returned (.int .i64 6) ∧ w' = w) = fun e w' => e = .returned (.int .i64 6) ∧ w' = w from by funext e w'; rw [if_neg (by omega)]]
    have b1 : decide (x < 0) = true := decide_eq_true c1
    clear c1
    go_enter Try.func45, Try.ntmps45
    go_wp2
    go_ret
    exact ⟨rfl, rfl⟩
  · have b1 : decide (x < 0) = false := decide_eq_false c1
    by_cases c2 : (l.length : Int) < x
    · rw [show (fun (e : Ending) (w' : World) => if 0 ≤ x ∧ x ≤ (l.length : Int) then e = .returned (.int .i64 0) ∧ w' = w.setCell ⟨g, 1, none⟩ (.int .i64 x) else e = .returned (.int .i64 6) ∧ w' = w) = fun e w' => e = .returned (.int .i64 6) ∧ w' = w from by funext e w'; rw [if_neg (by omega)]]
      have b2 : decide ((l.length : Int) < x) = true := decide_eq_true c2
      clear c1 c2
      go_enter Try.func45, Try.ntmps45
      go_wp2
      go_ret
      exact ⟨rfl, rfl⟩
    · rw [show (fun (e : Ending) (w' : World) => if 0 ≤ x ∧ x ≤ (l.length : Int) then e = .returned (.int .i64 0) ∧ w' = w.setCell ⟨g, 1, none⟩ (.int .i64 x) else e = .returned (.int .i64 6) ∧ w' = w) = fun e w' => e = .returned (.int .i64 0) ∧ w' = w.setCell ⟨g, 1, none⟩ (.int .i64 x) from by funext e w'; rw [if_pos (by omega)]]
      have b2 : decide ((l.length : Int) < x) = false := decide_eq_false c2
      clear c1 c2
      go_enter Try.func45, Try.ntmps45
      go_wp2
      go_ret
      exact ⟨rfl, rfl⟩
/-- What Peek and Take answer. -/
def peeked (l : List Int) (at_ : Int) : Value := if at_ = (l.length : Int) then .tuple #[.int .u64 0, .int .i64 11] else .tuple #[.int .u64 (rd l at_), .int .i64 0]
set_option maxHeartbeats 4000000 in
set_option maxRecDepth 100000 in
theorem words_Source_Peek.own {base : Nat} {ok : Nat → Prop} {w : World} {g : Nat} {v : Value} {l : List Int} {at_ : Int} (h : Src base ok w g v l at_) (ha : 0 ≤ at_) (hb : at_ ≤ l.length) :
    Calls Try.prog 43 #[.pointer (some ⟨g, 0, none⟩)] w fun e w' => e = .returned (peeked l at_) ∧ Drawn0 w w' := by
  obtain ⟨A, c, rfl, hc, hC, h0, h1, f0, f1⟩ := h.facts
  clear h hc
  unfold peeked
  by_cases c2 : at_ = (l.length : Int)
  · rw [if_pos c2]
    have b0 : (at_ == (l.length : Int)) = true := beq_iff_eq.mpr c2
    clear c2 ha hb hC
    go_enter Try.func43, Try.ntmps43
    go_wp2
    repeat (go_quiet (fail);try go_wp2)
    go_ret2
    exact ⟨rfl, by repeat (first | exact Drawn0.refl _ | apply Drawn0.step)⟩
  · rw [if_neg c2]
    have b0 : (at_ == (l.length : Int)) = false := beq_eq_false_iff_ne.mpr c2
    have hlt : at_ < (l.length : Int) := by omega
    obtain ⟨ad, rfl, hx⟩ := Kd.at_int hC at_ ha hlt
    clear hC c2 hb
    replace ha := eq_true ha
    replace hlt := eq_true hlt
    go_enter Try.func43, Try.ntmps43
    go_wp2
    repeat (go_quiet (fail);try go_wp2)
    go_ret2
    exact ⟨rfl, by repeat (first | exact Drawn0.refl _ | apply Drawn0.step)⟩
/-- What is kept where a place is set. -/
structure Moved (base : Nat) (ok : Nat → Prop) (w w' : World) (g : Nat) (v : Value) (l : List Int) (at_ : Int) : Prop where
  src : Src base ok w' g v l at_
  keep : KeepBut w w' g none
  below : Below g w w'
theorem Moved.refl {base : Nat} {ok : Nat → Prop} {w : World} {g : Nat} {v : Value} {l : List Int} {at_ : Int} (h : Src base ok w g v l at_) : Moved base ok w w g v l at_ :=
  ⟨h, KeepBut.refl _ _ _, Below.refl _ _⟩
theorem Moved.drawn {base : Nat} {ok : Nat → Prop} {w w1 w2 : World} {g : Nat} {v : Value} {l : List Int} {at_ : Int} (h : Moved base ok w w1 g v l at_) (hd : Drawn0 w1 w2) : Moved base ok w w2 g v l at_ :=
  ⟨h.src.below hd.below, h.keep.trans (KeepBut.of_below hd.below g none) (.inl rfl), h.below.trans (hd.below.mono (Nat.le_of_lt (blk_lt h.src.1)))⟩
theorem Moved.set {base : Nat} {ok : Nat → Prop} {w w1 : World} {g : Nat} {v : Value} {l : List Int} {at_ : Int} (h : Moved base ok w w1 g v l at_) (x : Int) : Moved base ok w (w1.setCell ⟨g, 1, none⟩ (.int .i64 x)) g v l x :=
  ⟨h.src.move x, h.keep.set_ 1 _, h.below.setCell (Nat.le_refl _) _⟩
set_option maxHeartbeats 4000000 in
set_option maxRecDepth 100000 in
theorem words_Source_Take.own {base : Nat} {ok : Nat → Prop} {w : World} {g : Nat} {v : Value} {l : List Int} {at_ : Int} (h : Src base ok w g v l at_) (ha : 0 ≤ at_) (hb : at_ ≤ l.length) :
    Calls Try.prog 44 #[.pointer (some ⟨g, 0, none⟩)] w fun e w' => e = .returned (peeked l at_) ∧ Moved base ok w w' g v l (if at_ = (l.length : Int) then at_ else wrap64 (at_ + 1)) := by
  have HP := Aside0.mk (words_Source_Peek.own h ha hb)
  have HS := Aside0.mk h
  clear h
  unfold peeked at *
  by_cases c2 : at_ = (l.length : Int)
  · rw [if_pos c2] at HP ⊢
    rw [if_pos c2]
    clear c2
    go_enter Try.func44, Try.ntmps44
    go_wp2_with (go_at_call 43; refine HP.out.mono ?_; rintro e w9 ⟨rfl, hd⟩; have HD := Aside0.mk hd; clear hd)
    go_ret2
    exact ⟨rfl, (Moved.refl HS.out).drawn HD.out⟩
  · rw [if_neg c2] at HP ⊢
    rw [if_neg c2]
    clear c2
    go_enter Try.func44, Try.ntmps44
    go_wp2_with (go_at_call 43; refine HP.out.mono ?_; rintro e w9 ⟨rfl, hd⟩; have HM := Aside0.mk ((Moved.refl HS.out).drawn hd); clear hd; obtain ⟨A, c, ev, hc, hC, h0, h1, f0, f1⟩ := HM.out.src.facts; clear hc hC f0)
    go_ret2
    exact ⟨rfl, HM.out.set _⟩
set_option maxHeartbeats 4000000 in
set_option maxRecDepth 100000 in
theorem words_Source_All.own {base : Nat} {ok : Nat → Prop} {w : World} {g : Nat} {v : Value} {l : List Int} {at_ : Int} (h : Src base ok w g v l at_) (hl : l.length ≤ 17592186044416) :
    Calls Try.prog 49 #[.pointer (some ⟨g, 0, none⟩)] w fun e w' => ∃ u, e = .returned u ∧ Kd.R (Kd.int .u64) 23 w' w.heap.size (fun _ => True) u l ∧ Below w.heap.size w w' := by
  obtain ⟨A, c, rfl, hc, hC, h0, h1, f0, f1⟩ := h.facts
  have HC := Aside0.mk hC
  have Hc := Aside0.mk hc
  have HL := Aside0.mk hl
  clear h hc hC hl h1 f1
  go_enter Try.func49, Try.ntmps49
  go_wp2_with (go_at_call 78; refine (clone64.calls A c l _ HC.out Hc.out HL.out).mono ?_; rintro e w1 ⟨u, rfl, hR, hb⟩; have HR := Aside0.mk hR; have HB := Aside0.mk hb; clear hR hb)
  go_ret
  exact ⟨_, rfl, HR.out, HB.out⟩
set_option maxHeartbeats 4000000 in
set_option maxRecDepth 100000 in
theorem words_Source_Fork.own {base : Nat} {ok : Nat → Prop} {w : World} {g : Nat} {v : Value} {l : List Int} {at_ : Int} (h : Src base ok w g v l at_) (hl : l.length ≤ 17592186044416) :
    Calls Try.prog 47 #[.pointer (some ⟨g, 0, none⟩)] w fun e w' => ∃ g2 u, e = .returned (.pointer (some ⟨g2, 0, none⟩)) ∧ Src w.heap.size (fun _ => True) w' g2 u l at_ ∧ Below w.heap.size w w' := by
  have hu := Try.underlying111
  obtain ⟨A, c, rfl, hc, hC, h0, h1, f0, f1⟩ := h.facts
  have HC := Aside0.mk hC
  have Hc := Aside0.mk hc
  have HL := Aside0.mk hl
  clear h hc hC hl
  go_enter Try.func47, Try.ntmps47
  go_wp2
  go_region_with (go_at_call 78; refine (clone64.calls A c l _ (by exact HC.out) Hc.out HL.out).mono ?_; rintro e w1 ⟨u, rfl, hR, hb⟩; have HV := Aside0.mk (show Kd.R (Kd.int .u64) 23 w1 w.heap.size (fun _ => True) u l from hR); have HB := Aside0.mk (show Below w.heap.size w w1 from (below_drew (Below.refl w.heap.size w)).trans hb); obtain ⟨A1, c1, rfl⟩ := Kd.R_slice hR; have h2 : w1.cell? ⟨g, 1, none⟩ = some (.int .i64 at_) := pw_cell_below hb h1; clear hR hb)
  all_goals (try go_wp2)
  all_goals go_ret
  all_goals refine ⟨_, _, rfl, ⟨?_, HB.out.size, Kd.R_below HV.out (below_alloc (Below.refl _ _) _)⟩, below_alloc HB.out _⟩
  all_goals (simpa using heap_alloc_new _ _)
set_option maxHeartbeats 4000000 in
set_option maxRecDepth 100000 in
theorem words_Source_Add.own {base : Nat} {ok : Nat → Prop} {w : World} {g : Nat} {v : Value} {l : List Int} {at_ : Int} (A2 : Option Addr) (c2 : Nat) (l2 : List Int) (h : Src base ok w g v l at_) (hfr : ∀ k, w.heap.size ≤ k → ok k) (hC2 : Kd.C (Kd.int .u64) w A2 l2.length l2) (hc2 : l2.length ≤ c2) (hl : l.length + l2.length ≤ 17592186044416) :
    Calls Try.prog 46 #[.pointer (some ⟨g, 0, none⟩), .slice A2 l2.length c2] w fun e w' => e = .returned (.tuple #[]) ∧ ∃ v', Src base ok w' g v' (l ++ l2) at_ ∧ KeepBut w w' g v.ownBlock ∧ Below base w w' ∧ (v'.ownBlock = v.ownBlock ∨ ∃ b, v'.ownBlock = some b ∧ w.heap.size ≤ b) := by
  have HS := Aside0.mk h
  obtain ⟨A, c, rfl, hc, hC, h0, h1, f0, f1⟩ := h.facts
  have HC2 := Aside0.mk hC2
  have HL := Aside0.mk hl
  have HF := Aside0.mk hfr
  have hbase : base ≤ w.heap.size := Nat.le_trans h.2.1 (Nat.le_of_lt (blk_lt h.1))
  have HBS := Aside0.mk hbase
  clear h hc hC hC2 hc2 hl hfr hbase h1 f1
  go_enter Try.func46, Try.ntmps46
  go_wp2_with ((with_reducible refine gate_builtin (b := .append) (xs := #[.tmp 10, .tmp 11]) rfl ?_);(try (refine gate_guard (by rfl) ?_;dsimp only));at_builtin;refine Kd.R_append_rows (Kd.int .u64) (w0 := w) base rfl (.tmp 10) (.tmp 11) 22 23 (.int .u64 0) 8 rfl Try.underlying22 info23 rfl (by decide) (by omega) _ l l2 _ _ _ ok (fun _ => False) rfl rfl ?aO ?aR (fun _ _ h => h) (fun _ h => h.elim) ?aF ?aB ?aS ?aL ?_;(case aR => exact HC2.out);(case aB => exact Below.refl _ _);(case aF => exact HF.out);(case aO => exact HS.out.2.2);(case aS => exact HBS.out);(case aL => have := HL.out;omega);intro v2 w2 ho hb hg hat;have HB2 := Aside0.mk (hb);have HO2 := Aside0.mk (ho);have HG2 := Aside0.mk hg;have HA2 := Aside0.mk hat;obtain ⟨A9, c9, rfl⟩ := Kd.R_slice ho;have hb2 := blk_grown HS.out.1 hg (Kd.R_ne HS.out.2.2 HS.out.1 (by decide));have f2 := blk_frozen hb2 0;have c2 := blk_cell hb2 0;have HH := Aside0.mk hb2;clear hb ho hg hat hb2 h0 f0)
  first | go_end0 | ((try simp only [Exit.inBlock, Exit.then]); refine bodyPost_ret (results_none rfl _ _ _) rfl ?_)
  refine ⟨rfl, _, ⟨by simpa using blk_set HH.out 0 _, HS.out.2.1, Kd.R_set HO2.out HH.out (by simp [Kd.int, Kd.scalar]) 0 _⟩, ?_, HB2.out.setCell HS.out.2.1 _, HA2.out⟩
  exact (KeepBut.of_grown HG2.out g).set_ 0 _
end Go.Proofs.Ytogdooclldoomaa.F
