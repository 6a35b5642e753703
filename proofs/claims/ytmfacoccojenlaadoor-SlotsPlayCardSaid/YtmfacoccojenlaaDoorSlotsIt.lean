-- Cut for this claim by a program (wip/prune.py) out of the texts that its bench laid or wrote
import Derived.RangeFuncBox
import Derived.RangeFuncLeaves
import Derived.RangeFuncNested
import Derived.RangeFuncBound
import Derived.RangeFuncCalls
import Derived.Shelf.Abstract
import Derived.WalkKit
import Derived.OwnWalkIn
import Derived.TacticsInMore
import Derived.LoopNIn
import Derived.LoopIn
import Derived.Maps.AppendAt
import Derived.Test.YtmfacoccojenlaaDoorSlotsQ
import Derived.Test.YtmfacoccojenlaaDoorSlots2
namespace Go.Proofs.YtmfacoccojenlaaDoor.F
open Go.RowKit Go.Shelf Go.Proofs.YtmfacoccojenlaaDoorW.PrintWords Go.Proofs.YtmfacoccojenlaaDoorW.PrintLast Go.Proofs.YtmfacoccojenlaaDoorW.PrintMore
set_option linter.unusedSimpArgs false
set_option linter.unusedVariables false
open Go.Proofs.YtmfacoccojenlaaDoor.N (ofN Bits fz cnt seqI wordI)
attribute [local go_sem] Oper.semAt_some
set_option maxHeartbeats 4000000 in
set_option maxRecDepth 100000 in
theorem clone64.calls (A : Option Addr) (c : Nat) (l : List Int) (w : World) (hr : Kd.C (Kd.int .u64) w A l.length l) (hc : l.length ≤ c) (hl : l.length ≤ 17592186044416) :
    Calls Tryd.prog 20 #[.slice A l.length c] w fun e w' => ∃ v, e = .returned v ∧ Kd.R (Kd.int .u64) 44 w' w.heap.size (fun _ => True) v l ∧ Below w.heap.size w w' := by
  have HR := Aside0.mk hr
  have HC := Aside0.mk hc
  have HL := Aside0.mk hl
  clear hr hc hl
  cases A with
  | none =>
    obtain rfl := Kd.C_none HR.out
    have hcmp : ∀ (W : World), (binOp BinOp.eql 41 (.slice none 0 c) (.slice none 0 0)).run Tryd.prog W = .ok (.bool true) W := fun W => by kernel_rfl
    go_enter Tryd.func20, Tryd.ntmps20
    go_wp2
    go_ret
    exact ⟨_, rfl, Kd.R_nil _ _ _ _ _, Below.refl _ _⟩
  | some ad =>
    have hcmp : ∀ (W : World) (n : Nat), (binOp BinOp.eql 41 (.slice (some ad) n c) (.slice none 0 0)).run Tryd.prog W = .ok (.bool false) W := fun W n => by kernel_rfl
    go_enter Tryd.func20, Tryd.ntmps20
    go_wp2_with (first|((with_reducible refine gate_dst (N := 5) rfl ?_);(try (refine gate_guard (by rfl) ?_;dsimp only));refine Kd.R_lit (Kd.int .u64) _ 44 ?hg (N := 5) ?hd (xs := ([] : List Int)) (inner := []) (ok := fun _ => True) (okp := fun _ => True) ?hr ?hp (fun _ hk => hk) trivial (Below.refl _ _) (Nat.le_refl _) (by simp) ?_;(case hd => rfl);(case hg => rfl);(case hr => first|(go_simp;done)|(go_simp;rfl));(case hp => exact (Reps.none _ _));intro v1 w1 ho1 hb1 hg_ hnew_;clear hg_ hnew_;have HB := Aside0.mk hb1;have HO := Aside0.mk ho1;clear hb1 ho1)|((with_reducible refine gate_builtin (b := .append) (xs := #[.tmp 5, .tmp 6]) rfl ?_);(try (refine gate_guard (by rfl) ?_;dsimp only));at_builtin;refine Kd.R_append_rows (Kd.int .u64) (w0 := w) w.heap.size rfl (.tmp 5) (.tmp 6) 41 44 (.int .u64 0) 8 rfl Tryd.underlying41 infoW rfl (by decide) (by omega) v1 [] l _ _ _ (fun _ => True) (fun _ => False) rfl rfl ?aO ?aR (fun _ _ h => h) (fun _ h => h.elim) ?aF ?aB ?aS ?aL ?_;(case aR => exact Kd.C_below HR.out HB.out);(case aB => exact HB.out);(case aF => exact (fun _ _ => trivial));(case aO => exact HO.out);(case aS => exact HB.out.size);(case aL => have := HL.out;simp only [List.length_nil];omega);intro v2 w2 ho hb hg hat;have HB2 := Aside0.mk (hb);have HO2 := Aside0.mk (ho);clear hb ho hg hat))
    go_ret
    exact ⟨_, rfl, HO2.out, HB2.out⟩
def Kw (n₀ : Nat) (W W' : World) : Prop := ∀ (i : Nat) (cells : Array Value), n₀ ≤ i → W.heap[i]? = some (.cells cells 44 (0, 0)) → W'.heap[i]? = some (.cells cells 44 (0, 0))
def Kp (n₀ B₀ : Nat) (W W' : World) : Prop := Kw n₀ W W' ∧ Below B₀ W W'
theorem Kp.refl (n₀ B₀ : Nat) (W : World) : Kp n₀ B₀ W W := ⟨fun _ _ _ h => h, Below.refl _ _⟩
theorem Kp.trans {n₀ B₀ : Nat} {A B C : World} (h : Kp n₀ B₀ A B) (k : Kp n₀ B₀ B C) : Kp n₀ B₀ A C := ⟨fun i c hi hc => k.1 i c hi (h.1 i c hi hc), h.2.trans k.2⟩
theorem Kp.putObj {n₀ B₀ l : Nat} {W : World} {o : Obj} (o' : Obj) (hB : B₀ ≤ l) (hl : W.heap[l]? = some o) (ho : o.isCells = false) (hw : o.isWalk = false) : Kp n₀ B₀ W (W.putObj l o') := by
  have hlt := (Array.getElem?_eq_some_iff.1 hl).1
  refine ⟨fun i c hi hc => ?_, (Below.refl B₀ W).grown (grownBy_putObj' W l o') (by omega) (fun k e => by cases e; omega)⟩
  rw [World.putObj_heap_other (fun e => by rw [e, hl] at hc; injection hc with hc; rw [hc] at ho; cases ho)]
  exact hc
theorem R_kw {n₀ b : Nat} {W W' : World} {v : Value} {xs : List Int} (h : Kd.R (Kd.int .u64) 44 W b (fun _ => True) v xs) (hb : n₀ ≤ b) (hk : Kw n₀ W W') : Kd.R (Kd.int .u64) 44 W' b (fun _ => True) v xs := by
  refine Kd.R_mono (Kd.R_step (Kd.R_bound h) (fun k ho hlt => ?_)) (fun k hk => hk.1)
  obtain ⟨_, h2, _, q, hq, cells, hc⟩ := ho
  have hq2 : q = 44 := by simpa [Kd.int, Kd.scalar, Kd.E] using hq
  subst hq2
  rw [hc]
  exact hk k cells (Nat.le_trans hb h2) hc
def Its (W : World) (p : Option Addr) (xs : List Int) : Prop := (p = none ∧ xs = []) ∨ ∃ base g v ws l, p = some ⟨g, 0, none⟩ ∧ Sl base W g v ws l ∧ xs = seqI 0 ws
theorem Its.below {W W' : World} {p : Option Addr} {xs : List Int} (h : Its W p xs) (hb : Below W.heap.size W W') : Its W' p xs :=
  h.imp id fun ⟨b, g, v, ws, l, hp, hs, hx⟩ => ⟨b, g, v, ws, l, hp, hs.below hb, hx⟩
theorem Tab.later2 {B₀ : Nat} {W W' : World} (h : Tab W) (h0 : 0 < B₀) (hb : Below B₀ W W') : Tab W' :=
  ⟨Nat.lt_of_lt_of_le h.1 hb.size, fun j hj => (hb.cell (p := ⟨0, j, none⟩) h0).trans (h.2 j hj)⟩
theorem tz_same (y : Nat) (h0 : y ≠ 0) (h : y < 18446744073709551616) (w : World) (HT : Tab w) :
    Calls Tryd.prog 17 #[.int .u64 (y : Int)] w fun e w' => e = .returned (.int .i64 ((Go.Lib.ctz 64 y : Nat) : Int)) ∧ w' = w := by
  have hk := N.tz_eq y h0 h
  have h' := Option.some.inj hk
  rw [if_neg (by omega)] at h'
  obtain ⟨k0, k1⟩ := tzAt_lt (y : Int)
  have hi : (tzAt (y : Int)).toNat < 64 := by omega
  have := tz_core (y : Int) _ (tzAt (y : Int)).toNat w (by simpa using h0) (by have := Int.toNat_of_nonneg k0; rw [this]; rfl) hi (tab_le _ hi) (HT.2 _ hi)
  rw [h'] at this
  exact this
set_option maxHeartbeats 4000000 in
set_option maxRecDepth 100000 in
theorem slots_all1 (n : Nat) (hn : 1 ≤ n) (l Bn n₀ B₀ : Nat) (p0 : Option Addr) (xs : List Int) (J Jx : List Int → World → Prop)
    (hY : ∀ pre x W, J pre W → pre.length < xs.length → YieldAt Fence.wide (n - 1) Tryd.prog l #[.int .i64 x] W fun e W' =>
      (e = .returned (.bool true) ∧ J (pre ++ [x]) W' ∧ Kp n₀ B₀ W W') ∨ (e = .returned (.bool false) ∧ Jx (pre ++ [x]) W'))
    (W : World) (hn0 : n₀ ≤ W.heap.size) (hB0 : 0 < B₀) (hJ : AbidesFrom W.heap.size J) (hBn : W.cell? ⟨Bn, 0, none⟩ = some (.pointer p0)) (hI : Its W p0 xs) (HT : Aside0 (Tab W)) (h0 : J [] W) :
    CallsIn Fence.wide n Tryd.prog 19 #[.func (.yield l) #[] #[], .pointer (some ⟨Bn, 0, none⟩)] W fun e W' => (∃ v, e = .returned v) ∧
      ((∃ ys, ys = xs ∧ J ys W') ∨ (∃ pre, pre <+: xs ∧ Jx pre W')) := by
  have hu := Tryd.underlying43
  rcases hI with ⟨rfl, rfl⟩ | ⟨base, g, v, ws, bl, rfl, hS, hxs⟩
  · refine callsIn_of_wp Tryd.func19 rfl trivial ?_ rfl
    simp only [Tryd.ntmps19, List.size_toArray, List.length_cons, List.length_nil, Nat.reduceAdd, Nat.reduceSub, Array.replicate_succ, Array.replicate_zero, List.push_toArray, List.append_toArray, List.nil_append, List.cons_append]
    gi_wp2
    refine bodyPost_ret (results_none rfl _ _ _) rfl ?_
    exact ⟨⟨_, rfl⟩, .inl ⟨[], rfl, h0⟩⟩
  · have hl64 : ws.length ≤ 64 := by have := hS.2.2.2.1.len; have := hS.2.2.2.2; omega
    obtain ⟨A, c, rfl, hc, hC, h0c, _, _⟩ := hS.facts
    have hcl := Aside0.mk (fun (W2 : World) (h : Kd.C (Kd.int .u64) W2 A (ofN ws).length (ofN ws)) => clone64.calls A c (ofN ws) W2 h hc (by rw [N.ofN_length]; omega))
    have HCC := Aside0.mk hC
    have HSM := Aside0.mk hS.2.2.2.1.small
    have HY := Aside0.mk hY
    have HJ := Aside0.mk hJ
    have HJ0 := Aside0.mk h0
    have HXS := Aside0.mk hxs
    have HL64 := Aside0.mk hl64
    clear hc hC hS hY hJ h0 hxs
    refine callsIn_of_wp Tryd.func19 rfl trivial ?_ rfl
    simp only [Tryd.ntmps19, List.size_toArray, List.length_cons, List.length_nil, Nat.reduceAdd, Nat.reduceSub, Array.replicate_succ, Array.replicate_zero, List.push_toArray, List.append_toArray, List.nil_append, List.cons_append]
    gi_wp2_with (refine ⟨trivial, ?_⟩; gi_at_call 20; refine (callsIn_wide.2 (hcl.out _ HCC.out)).mono ?_; rintro e W1 ⟨v, rfl, hR, hb⟩; obtain ⟨Ac, cc, rfl⟩ := Kd.R_slice hR; have HR := Aside0.mk (Kd.R_lower hR hn0); have HT1 := Tab.later HT hb; have HJ1 := Aside0.mk (HJ.out _ _ _ none HJ0.out (grown_of_below hb none) (fun r e => by cases e)); clear hR hb)
    gi_loopw [13] (fun p wr => ∃ (k : Nat) (pre : List Int), p = .int .i64 (k : Int) ∧ k ≤ ws.length ∧ Aside0 (xs = pre ++ seqI (0 + k) (ws.drop k)) ∧ Aside0 (Kd.R (Kd.int .u64) 44 wr n₀ (fun _ => True) (.slice Ac (ofN ws).length cc) (ofN ws)) ∧ Aside0 (Tab wr) ∧ Aside0 (J pre wr)) (fun p _ => ws.length - (intOf p).toNat)
    case atStart => exact ⟨0, [], rfl, Nat.zero_le _, ⟨by rw [HXS.out]; rfl⟩, HR, HT1, HJ1⟩
    case round =>
      clear HJ0 HR HT1 HJ1 HXS h0c hcl HCC
      obtain ⟨k, pre, rfl, hk, HX, HR, HT1, HJ1⟩ := hrel
      by_cases hlt : k < ws.length
      · have hL : (ofN ws).length = ws.length := N.ofN_length ws
        obtain ⟨ad, rfl, hx⟩ := Kd.at_int (Kd.R_reads' HR.out).2.2 (k : Int) (by omega) (by omega)
        rw [N.rd_ofN, Int.toNat_natCast] at hx
        have c1 : decide ((k : Int) < ((ofN ws).length : Int)) = true := decide_eq_true (by omega)
        have c2 : decide (k < (ofN ws).length) = true := decide_eq_true (by omega)
        have c3 : decide (0 ≤ (k : Int)) = true := decide_eq_true (by omega)
        have c4 : (k : Int) < ((ofN ws).length : Int) := by omega
        obtain ⟨y0, hy0⟩ : ∃ y0, y0 = ws.getD k 0 := ⟨_, rfl⟩
        rw [← hy0] at hx
        have HY0 := Aside0.mk hy0
        clear hy0
        have hk64 : k ≤ 64 := by have := HL64.out; omega
        clear hL
        gi_wp2
        gi_loopw [4] (fun p wr => ∃ (y : Nat) (pre : List Int), p = .int .u64 (y : Int) ∧ Aside0 (y < 18446744073709551616) ∧ Aside0 (xs = pre ++ (wordI (0 + k) y ++ seqI (0 + (k + 1)) (ws.drop (k + 1)))) ∧ Aside0 (Kd.R (Kd.int .u64) 44 wr n₀ (fun _ => True) (.slice (some ad) (ofN ws).length cc) (ofN ws)) ∧ Aside0 (Tab wr) ∧ Aside0 (J pre wr)) (fun p _ => (intOf p).toNat)
        case atStart => exact ⟨y0, pre, rfl, ⟨by rw [HY0.out]; exact HSM.out k⟩, ⟨by rw [HX.out, N.seq_at ws k hlt 0, HY0.out]⟩, HR, HT1, HJ1⟩
        case round =>
          clear HX HR HT1 HJ1 hx pre
          obtain ⟨y, pre, rfl, HYL, HX, HR, HT1, HJ1⟩ := hrel
          by_cases hy0 : y = 0
          · subst hy0
            have HX2 : Aside0 (xs = pre ++ seqI (0 + (k + 1)) (ws.drop (k + 1))) := ⟨by rw [HX.out, N.word_zero]; rfl⟩
            gi_wp2
            go_roundw
            case rel => exact ⟨k + 1, pre, rfl, by omega, HX2, HR, HT1, HJ1⟩
            case measure => (show ws.length - ((k : Int) + 1).toNat < ws.length - ((k : Int)).toNat); omega
          · obtain ⟨q1, q2, q3⟩ := N.bits_next y hy0 HYL.out
            have HX2 := HX.out
            rw [N.word_next (0 + k) y hy0 HYL.out] at HX2
            have htz := Aside0.mk (fun W hT => tz_same y hy0 HYL.out W hT)
            have hand := bits_and_u64_nat y (y - 1) HYL.out (by have := HYL.out; omega)
            have hz2 : y &&& (y - 1) < 18446744073709551616 := Nat.lt_trans q3 HYL.out
            generalize Go.Lib.ctz 64 y = t at q1 q2 HX2 htz
            generalize y &&& (y - 1) = z at q1 q3 HX2 hand hz2
            obtain ⟨fn, tmps, assign, body, hy, hR⟩ := HY.out pre (64 * (k : Int) + (t : Int)) _ HJ1.out (by rw [HX2]; simp)
            have HZ2 := Aside0.mk hz2
            have HX3 : Aside0 (xs = (pre ++ [64 * (k : Int) + (t : Int)]) ++ (wordI (0 + k) z ++ seqI (0 + (k + 1)) (ws.drop (k + 1)))) := ⟨by rw [HX2]; simp⟩
            have hy1 : 1 ≤ y := by omega
            have g1 : decide (0 < (y : Int)) = true := decide_eq_true (by omega)
            have g2 : decide (0 < y) = true := decide_eq_true (by omega)
            have hs1 : (y : Int) - 1 = ((y - 1 : Nat) : Int) := by omega
            have hs2 : IntKind.u64.wrap ((y - 1 : Nat) : Int) = ((y - 1 : Nat) : Int) := N.u64n _ (by have := HYL.out; omega)
            generalize y - 1 = y1 at hand hs1 hs2
            clear q1 HX2 hz2
            gi_wp2_with (refine ⟨trivial, ?_⟩; gi_at_call 17; refine (callsIn_wide.2 (htz.out _ HT1.out)).mono ?_; rintro e w2 ⟨rfl, rfl⟩)
            refine hR.mono ?_
            rintro e W3 (⟨rfl, hJ3, hk3⟩ | ⟨rfl, hJx3⟩)
            · gi_wp2
              go_roundw
              case rel => exact ⟨z, _, rfl, HZ2, HX3, ⟨R_kw HR.out (Nat.le_refl _) hk3.1⟩, ⟨Tab.later2 HT1.out hB0 hk3.2⟩, ⟨hJ3⟩⟩
              case measure => (show ((z : Int)).toNat < ((y : Int)).toNat); omega
            · gi_wp2
              refine bodyPost_ret (results_none rfl _ _ _) rfl ?_
              exact ⟨⟨_, rfl⟩, .inr ⟨_, ⟨_, HX3.out.symm⟩, hJx3⟩⟩
      · have e : k = ws.length := by omega
        subst e
        have hL : (ofN ws).length = ws.length := N.ofN_length ws
        have c1 : decide ((ws.length : Int) < ((ofN ws).length : Int)) = false := decide_eq_false (by omega)
        have c2 : decide (ws.length < (ofN ws).length) = false := decide_eq_false (by omega)
        clear hL
        gi_wp2
        go_end0
        exact ⟨⟨_, rfl⟩, .inl ⟨pre, by rw [HX.out, List.drop_length]; simp [N.seqI], HJ1.out⟩⟩
end Go.Proofs.YtmfacoccojenlaaDoor.F
