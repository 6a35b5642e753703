-- Cut for this claim by a program (wip/prune.py) out of the texts that its bench laid or wrote
import Derived.Test.YteipfcflijdapaaDoorDigs
import Derived.Test.YteipfcflijdapaaDoorFRef01A
section
namespace Go.Proofs.YteipfcflijdapaaDoor.F
open Go.RowKit Go.Proofs.YteipfcflijdapaaDoorW.PrintWords Go.Proofs.YteipfcflijdapaaDoorW.PrintLast Go.Proofs.YteipfcflijdapaaDoorW.PrintMore
attribute [local go_sem] max2_int min2_int max_two min_two max_three min_three max_four min_four
set_option linter.unusedVariables false
set_option linter.unusedSimpArgs false
end Go.Proofs.YteipfcflijdapaaDoor.F
end
section
namespace Go.Proofs.YteipfcflijdapaaDoor.F
open Go.RowKit Go.Proofs.YteipfcflijdapaaDoorW.PrintWords Go.Proofs.YteipfcflijdapaaDoorW.PrintLast Go.Proofs.YteipfcflijdapaaDoorW.PrintMore
attribute [local go_sem] max2_int min2_int max_two min_two max_three min_three max_four min_four
set_option linter.unusedVariables false
set_option linter.unusedSimpArgs false
section
def tombolaref01_Word.l0 : Nat → Int → Int → List Int → Option (Int × Bool)
 | 0, _, _, _ => none
 | k + 1, x4, x5, x102000 => if x5 ≥ 0 then (if 0 ≤ x5 then (if x5 < (x102000.length : Int) then (tombolaref01_Word.l0 k (IntKind.u64.wrap ((IntKind.u64.wrap (x4 * 65536)) + (IntKind.u64.wrap (rd x102000 x5)))) (wrap64 (x5 - 1)) x102000) else (none)) else (none)) else (some (x4, true))
def tombolaref01_Word.f (k : Nat) (l0_0 : List Int) : Option (Int × Bool) := if (l0_0.length : Int) > 4 then (some (0, false)) else (tombolaref01_Word.l0 k 0 (wrap64 ((l0_0.length : Int) - 1)) l0_0)
set_option maxHeartbeats 8000000 in
set_option maxRecDepth 100000 in
theorem tombolaref01_Word.calls (k : Nat) (A0_0 : Option Addr) (c0_0 : Nat) (l0_0 : List Int) (r1 : Int) (r2 : Bool) (w : World) (hr0_0 : Kd.C (Kd.int .i64) w A0_0 l0_0.length l0_0) (hc0_0 : l0_0.length ≤ c0_0) (h : tombolaref01_Word.f k l0_0 = some (r1, r2)) :
  Calls Tryd.prog 23 #[.agg #[.slice A0_0 l0_0.length c0_0]] w fun e w' => e = .returned (.tuple #[.int .u64 r1, .bool r2]) ∧ Below w.heap.size w w' := by
 have hu32 := Tryd.underlying32
 have HR0_0 := Aside0.mk hr0_0
 have HC0_0 := Aside0.mk hc0_0
 clear hr0_0 hc0_0
 have HB := Aside0.mk (Below.refl w.heap.size w)
 have H : (if (l0_0.length : Int) > 4 then (some (0, false)) else (tombolaref01_Word.l0 k 0 (wrap64 ((l0_0.length : Int) - 1)) l0_0)) = some (r1, r2) := h
 clear h
 by_cases c2 : (l0_0.length : Int) > 4
 ·rw [if_pos c2] at H
  have c2b0 : decide (4 < (l0_0.length : Int)) = true := decide_eq_true c2
  have c2b1 : decide (4 < l0_0.length) = true := decide_eq_true (by omega)
  clear c2
  simp only [Option.some.injEq, Prod.mk.injEq] at H
  obtain ⟨rfl, rfl⟩ := H
  go_enter Tryd.func23, Tryd.ntmps23
  go_wp2_with (first|((with_reducible refine gate_dst (N := 1) rfl ?_);refine box_event ?hg (N := 1) ?hd (cs := #[.slice A0_0 l0_0.length c0_0]) (t := 32) ?hr ?_;(case hd => rfl);(case hg => rfl);(case hr => first|(go_simp;done)|(go_simp;rfl));intro gb101 hg w3 hbox hb;have n0_ := Aside0.mk (below_step (by repeat (first|(with_reducible first|exact HB.out|apply below_alloc|apply pw_below_drewN|apply below_drew1)|exact HB.out)) hb);have n1_ := Aside0.mk (hbox);have n2_ := Aside0.mk ((by rw [hg];exact (below_size (by repeat (first|(with_reducible first|exact HB.out|apply below_alloc|apply pw_below_drewN|apply below_drew1)|exact HB.out))) : w.heap.size ≤ gb101));have n3_ := Aside0.mk ((by rw [hg];exact (below_size (by repeat (first|(with_reducible first|exact HB.out|apply below_alloc|apply pw_below_drewN|apply below_drew1)|exact HB.out))) : w.heap.size ≤ gb101));clear HB;have HB := n0_;have BK101 := n1_;have GW101 := n2_;have GE101 := n3_;clear n0_ n1_ n2_ n3_;clear hb hbox hg;have hcz4_0 : w3.cell? ⟨gb101, 0, none⟩ = some (.slice A0_0 l0_0.length c0_0) := (blk_cell BK101.out 0).trans rfl;have hfz4_0 := blk_frozen BK101.out 0))
  go_ret2
  exact ⟨by first|rfl|(simp [errW_none, errW_some] <;> rfl)|(simp [*, errW_none, errW_some] <;> rfl), by repeat (first|(with_reducible first|exact HB.out|apply below_alloc|apply pw_below_drewN|apply below_drew1|refine below_set ?_ GE101.out)|exact HB.out)⟩
 ·rw [if_neg c2] at H
  have c2b0 : decide (4 < (l0_0.length : Int)) = false := decide_eq_false c2
  have c2b1 : decide (4 < l0_0.length) = false := decide_eq_false (by omega)
  clear c2
  have H' := Aside0.mk H
  clear H
  go_enter Tryd.func23, Tryd.ntmps23
  go_wp2_with (first|((with_reducible refine gate_dst (N := 1) rfl ?_);refine box_event ?hg (N := 1) ?hd (cs := #[.slice A0_0 l0_0.length c0_0]) (t := 32) ?hr ?_;(case hd => rfl);(case hg => rfl);(case hr => first|(go_simp;done)|(go_simp;rfl));intro gb101 hg w5 hbox hb;have n0_ := Aside0.mk (below_step (by repeat (first|(with_reducible first|exact HB.out|apply below_alloc|apply pw_below_drewN|apply below_drew1)|exact HB.out)) hb);have n1_ := Aside0.mk (hbox);have n2_ := Aside0.mk ((by rw [hg];exact (below_size (by repeat (first|(with_reducible first|exact HB.out|apply below_alloc|apply pw_below_drewN|apply below_drew1)|exact HB.out))) : w.heap.size ≤ gb101));have n3_ := Aside0.mk ((by rw [hg];exact (below_size (by repeat (first|(with_reducible first|exact HB.out|apply below_alloc|apply pw_below_drewN|apply below_drew1)|exact HB.out))) : w.heap.size ≤ gb101));clear HB;have HB := n0_;have BK101 := n1_;have GW101 := n2_;have GE101 := n3_;clear n0_ n1_ n2_ n3_;clear hb hbox hg;have hcz6_0 : w5.cell? ⟨gb101, 0, none⟩ = some (.slice A0_0 l0_0.length c0_0) := (blk_cell BK101.out 0).trans rfl;have hfz6_0 := blk_frozen BK101.out 0))
  go_loopg [4, 5] k (fun kq v4 v5 w' => ∃ (x4_1 : Int) (x5_1 : Int), v4 = .int .u64 x4_1 ∧ v5 = .int .i64 x5_1 ∧ Aside0 (tombolaref01_Word.l0 kq x4_1 x5_1 l0_0 = some (r1, r2)) ∧ Aside0 (kq ≤ k) ∧ Aside0 (w'.heap[gb101]? = some (.cells #[(.slice A0_0 l0_0.length c0_0)] 32 (0, 0))) ∧ Aside0 (Below w.heap.size w w'))
  case atStart => exact ⟨(0), (wrap64 ((l0_0.length : Int) - 1)), (by first|rfl|(simp;done)|(simp [*];done)), (by first|rfl|(simp;done)|(simp [*];done)), H', ⟨Nat.le_refl _⟩, ⟨by (with_reducible repeat (first|refine blk_drewN ?_ _|refine blk_drew ?_|refine blk_alloc ?_ _));exact BK101.out⟩, ⟨by repeat (first|(with_reducible first|exact HB.out|apply below_alloc|apply pw_below_drewN|apply below_drew1|refine below_set ?_ GE101.out)|exact HB.out)⟩⟩
  case round =>
   clear H'
   try clear c2
   try clear c2b0
   try clear c2b1
   try clear p2
   try clear p6
   try clear hcz4_0
   try clear hcz6_0
   try clear hfz4_0
   try clear hfz6_0
   obtain ⟨x4_1, x5_1, rfl, rfl, HA, HK1, BK101, HB⟩ := hrel
   cases gk with
   | zero => exact absurd HA.out (by simp [tombolaref01_Word.l0])
   | succ k1 =>
    have H := HA.out
    clear HA
    simp only [tombolaref01_Word.l0] at H
    by_cases c7 : x5_1 ≥ 0
    ·rw [if_pos c7] at H
     have c7b0 : decide (0 ≤ x5_1) = true := decide_eq_true c7
     clear c7
     by_cases c8 : 0 ≤ x5_1
     ·rw [if_pos c8] at H
      have c8b0 : decide (0 ≤ x5_1) = true := decide_eq_true c8
      clear c8
      by_cases c9 : x5_1 < (l0_0.length : Int)
      ·rw [if_pos c9] at H
       have c9b0 : decide (x5_1 < (l0_0.length : Int)) = true := decide_eq_true c9
       clear c9
       have H' := Aside0.mk H
       clear H
       have hcz10_0 : wr.cell? ⟨gb101, 0, none⟩ = some (.slice A0_0 l0_0.length c0_0) := (blk_cell BK101.out 0).trans rfl
       have hfz10_0 := blk_frozen BK101.out 0
       have p102 : 0 ≤ (x5_1 : Int) := of_decide_eq_true (by first|(with_reducible assumption)|assumption)
       have q102 : x5_1 < (l0_0.length : Int) := of_decide_eq_true (by first|(with_reducible assumption)|assumption)
       obtain ⟨ad102, e102, hx102_0⟩ := Kd.at_int HR0_0.out x5_1 p102 q102
       cases e102
       replace hx102_0 := (HB.out.cell (World.block_lt_of_cell? w _ hx102_0)).trans hx102_0
       replace p102 := eq_true p102
       replace q102 := eq_true q102
       go_wp2
       go_roundg k1
       case measure => have := HK1.out;omega
       case rel => exact ⟨(IntKind.u64.wrap ((IntKind.u64.wrap (x4_1 * 65536)) + (IntKind.u64.wrap (rd l0_0 x5_1)))), (wrap64 (x5_1 - 1)), (by first|rfl|(simp;done)|(simp [*];done)), (by first|rfl|(simp;done)|(simp [*];done)), H', ⟨by have := HK1.out;omega⟩, ⟨by (with_reducible repeat (first|refine blk_drewN ?_ _|refine blk_drew ?_|refine blk_alloc ?_ _));exact BK101.out⟩, ⟨by repeat (first|(with_reducible first|exact HB.out|apply below_alloc|apply pw_below_drewN|apply below_drew1|refine below_set ?_ GE101.out)|exact HB.out)⟩⟩
      ·rw [if_neg c9] at H
       exact absurd H (by simp)
     ·rw [if_neg c8] at H
      exact absurd H (by simp)
    ·rw [if_neg c7] at H
     have c7b0 : decide (0 ≤ x5_1) = false := decide_eq_false c7
     clear c7
     simp only [Option.some.injEq, Prod.mk.injEq] at H
     obtain ⟨rfl, rfl⟩ := H
     go_wp2
     go_ret2
     exact ⟨by first|rfl|(simp [errW_none, errW_some] <;> rfl)|(simp [*, errW_none, errW_some] <;> rfl), by repeat (first|(with_reducible first|exact HB.out|apply below_alloc|apply pw_below_drewN|apply below_drew1|refine below_set ?_ GE101.out)|exact HB.out)⟩
end
end Go.Proofs.YteipfcflijdapaaDoor.F
end
section
namespace Go.Proofs.YteipfcflijdapaaDoor.N
open Go Go.RowKit Go.Proofs.YteipfcflijdapaaDoor.F Go.Proofs.YteipfcflijdapaaDoorW.PrintWords Go.Proofs.YteipfcflijdapaaDoorW.PrintLast Go.Proofs.YteipfcflijdapaaDoorW.PrintMore Go.Proofs.YteipfcflijdapaaDoor.Digs
set_option linter.unusedSimpArgs false
set_option linter.unusedVariables false
theorem u64w {x : Int} (h0 : 0 ≤ x) (h1 : x < 18446744073709551616) : IntKind.u64.wrap x = x := by
  simp [IntKind.wrap, IntKind.bits, IntKind.signed]; omega
theorem i64w {x : Int} (h0 : -9223372036854775808 ≤ x) (h1 : x < 9223372036854775808) : wrap64 x = x := by unfold wrap64; omega
theorem u64_mod (x : Int) : IntKind.u64.wrap x = x % 18446744073709551616 := by
  simp [IntKind.wrap, IntKind.bits, IntKind.signed]
theorem ev_of_eq {α : Type} {g : Nat → Option α} {r : α} (h : ∀ k, g k = some r) : Ev g r := ⟨0, fun k _ => h k⟩
theorem Ev.bindN {α β : Type} {g : Nat → Option α} {f : α → Option β} {a : α} {r : β} (h : Ev g a) (k : f a = some r) : Ev (fun n => (g n).bind f) r :=
  Ev.bind (f := fun _ => f) h (ev_of_eq fun _ => k)
theorem of_l0 (n : Nat) : ∀ (acc : List Int), acc.length + (digs n).length < 17592186044416 → n < 18446744073709551616 →
    Ev (fun k => tombolaref01_Of.l0 k n acc) (acc ++ digs n) := by
  induction n using Nat.strongRecOn with
  | _ n ih =>
    intro acc hl hn
    by_cases h : n = 0
    · subst h
      refine ⟨1, fun k hk => ?_⟩
      obtain ⟨k, rfl⟩ : ∃ m, k = m + 1 := ⟨k - 1, by omega⟩
      simp only [tombolaref01_Of.l0]
      rw [if_neg (by omega), digs_zero, List.append_nil]
    · have hd := digs_pos (n := n) (by omega)
      rw [hd, List.length_cons] at hl
      refine Ev.step (f := fun k => tombolaref01_Of.l0 k ((n / 65536 : Nat) : Int) (acc ++ [((n % 65536 : Nat) : Int)])) (fun k => ?_) ?_
      · simp only [tombolaref01_Of.l0]
        rw [if_pos (by omega), if_pos (by omega)]
        rw [Int.tdiv_eq_ediv_of_nonneg (by omega), Int.tmod_eq_emod_of_nonneg (by omega), u64w (by omega) (by omega), i64w (by omega) (by omega)]
        simp
      · have := ih (n / 65536) (by omega) (acc ++ [((n % 65536 : Nat) : Int)]) (by simp only [List.length_append, List.length_cons, List.length_nil]; omega) (by omega)
        rw [hd]
        simpa using this
theorem u64_len {n : Nat} (h : n < 18446744073709551616) : (digs n).length ≤ 4 := (digs_len_le n 4).2 (by simpa using h)
theorem of_ev (n : Nat) (hn : n < 18446744073709551616) : Ev (fun k => tombolaref01_Of.f k n) (digs n) := by
  have := of_l0 n [] (by have := u64_len hn; simp; omega) hn
  simpa [tombolaref01_Of.f] using this
theorem rd_dig (l : List Int) (i : Nat) : rd l (i : Int) = dig l i := by simp [rd, dig]
theorem digit_eq (l : List Int) (i : Nat) : tombolaref01_digit.f l i = some (dig l i) := by
  unfold tombolaref01_digit.f
  by_cases h : (i : Int) < (l.length : Int)
  · rw [if_pos h, if_pos (by omega), rd_dig]
  · rw [if_neg h, dig_behind (by omega)]
theorem word_l0 (l : List Int) (hg : Dg l) (hl : l.length ≤ 4) (i : Nat) : i ≤ l.length →
    Ev (fun k => tombolaref01_Word.l0 k (val l / 65536 ^ i) ((i : Int) - 1) l) (val l, true) := by
  have hv := val_lt hg
  have hn := val_nonneg hg
  have hlt : val l < 18446744073709551616 := by
    have : (65536 : Int) ^ l.length ≤ 65536 ^ 4 := pow_mono hl
    have e : (65536 : Int) ^ 4 = 18446744073709551616 := by decide
    omega
  induction i with
  | zero =>
    intro _
    refine ⟨1, fun k hk => ?_⟩
    obtain ⟨k, rfl⟩ : ∃ m, k = m + 1 := ⟨k - 1, by omega⟩
    simp only [tombolaref01_Word.l0]
    rw [if_neg (by omega)]; simp
  | succ i ih =>
    intro hi
    refine Ev.step (f := fun k => tombolaref01_Word.l0 k (val l / 65536 ^ i) ((i : Int) - 1) l) (fun k => ?_) (ih (by omega))
    simp only [tombolaref01_Word.l0]
    have e : (((i + 1 : Nat) : Int) - 1) = (i : Int) := by omega
    rw [e, if_pos (by omega), if_pos (by omega), if_pos (by omega), rd_dig]
    have hd := dig_good hg i
    have hdv := dig_val hg i
    have h1 : val l / 65536 ^ (i + 1) = val l / 65536 ^ i / 65536 := by rw [Int.pow_succ, Int.ediv_ediv_of_nonneg (by have := pow_pos' i; omega)]
    have h2 : 0 ≤ val l / 65536 ^ i := Int.ediv_nonneg hn (by have := pow_pos' i; omega)
    have h3 : val l / 65536 ^ i ≤ val l := Int.ediv_le_self _ hn
    have h4 : val l / 65536 ^ i / 65536 * 65536 + dig l i = val l / 65536 ^ i := by omega
    rw [u64w hd.1 (by omega), h1, u64w (x := val l / 65536 ^ i / 65536 * 65536) (by omega) (by omega), h4, u64w (by omega) (by omega), i64w (by omega) (by omega)]
theorem word_good (l : List Int) (hg : Dg l) (hl : l.length ≤ 4) : Ev (fun k => tombolaref01_Word.f k l) (val l, true) := by
  have h := word_l0 l hg hl l.length (Nat.le_refl _)
  have e : val l / 65536 ^ l.length = 0 := Int.ediv_eq_zero_of_lt (val_nonneg hg) (val_lt hg)
  rw [e] at h
  refine Ev.congr (fun k => ?_) h
  unfold tombolaref01_Word.f
  rw [if_neg (by omega), i64w (by omega) (by omega)]
theorem word_ev (n : Nat) (hn : n < 18446744073709551616) : Ev (fun k => tombolaref01_Word.f k (digs n)) ((n : Int), true) := by
  have := word_good (digs n) (good_digs n) (u64_len hn)
  rwa [val_digs] at this
theorem word_no (n : Nat) (hn : 18446744073709551616 ≤ n) : Ev (fun k => tombolaref01_Word.f k (digs n)) (0, false) := by
  have : ¬ (digs n).length ≤ 4 := fun h => by have := (digs_len_le n 4).1 h; simp at this; omega
  refine ev_of_eq fun k => ?_
  unfold tombolaref01_Word.f
  rw [if_pos (by omega)]
theorem cut_l0 (l : List Int) (hg : Dg l) (hlen : l.length < 17592186044416) (i : Nat) : i ≤ l.length → val (l.take i) = val l →
    Ev (fun k => tombolaref01_Cut.l0 k l i) (digs (val l).toNat) := by
  induction i with
  | zero =>
    intro _ hv
    refine ⟨1, fun k hk => ?_⟩
    obtain ⟨k, rfl⟩ : ∃ m, k = m + 1 := ⟨k - 1, by omega⟩
    simp only [tombolaref01_Cut.l0]
    rw [if_neg (by omega)]
    simp only [Option.bind_some]
    rw [if_pos (by omega), if_pos (by omega)]
    simp only [List.take_zero, val] at hv
    rw [if_pos (by simp), ← hv]
    simp [digs_zero]
  | succ i ih =>
    intro hi hv
    have hgt : Dg (l.take (i + 1)) := fun d hd => hg d (List.mem_of_mem_take hd)
    have hi' : i < l.length := by omega
    have hts : l.take (i + 1) = l.take i ++ [l[i]] := by rw [List.take_succ_eq_append_getElem hi']
    have hdi : dig l i = l[i] := by simp [dig, List.getD_eq_getElem?_getD, List.getElem?_eq_getElem hi']
    have e : wrap64 (((i + 1 : Nat) : Int) - 1) = (i : Int) := by rw [i64w (by omega) (by omega)]; omega
    by_cases hz : dig l i = 0
    · refine Ev.step (f := fun k => tombolaref01_Cut.l0 k l i) (fun k => ?_) (ih (by omega) ?_)
      · simp only [tombolaref01_Cut.l0]
        rw [if_pos (by omega), e, if_pos (by omega), if_pos (by omega), rd_dig, if_pos hz]
      · rw [hts, val_snoc, ← hdi, hz] at hv
        omega
    · refine ⟨1, fun k hk => ?_⟩
      obtain ⟨k, rfl⟩ : ∃ m, k = m + 1 := ⟨k - 1, by omega⟩
      simp only [tombolaref01_Cut.l0]
      rw [if_pos (by omega), e, if_pos (by omega), if_pos (by omega), rd_dig, if_neg hz]
      simp only [Option.bind_some]
      rw [if_pos (by omega), if_pos (by omega)]
      have e2 : ((i + 1 : Nat) : Int).toNat = i + 1 := by omega
      rw [e2, if_pos (by simp; omega)]
      have := digs_val hgt (fun x hx => by rw [hts, List.getLast?_concat] at hx; injection hx with hx; rw [← hx, ← hdi]; exact hz)
      rw [hv] at this
      rw [this]; simp
theorem cut_ev {l : List Int} (hg : Dg l) (hlen : l.length < 17592186044416) : Ev (fun k => tombolaref01_Cut.f k l) (digs (val l).toNat) := by
  have := cut_l0 l hg hlen l.length (Nat.le_refl _) (by rw [List.take_length])
  exact this
end Go.Proofs.YteipfcflijdapaaDoor.N
end
