-- Cut for this claim by a program (wip/prune.py) out of the texts that its bench laid or wrote
import Derived.Test.YtocgbbhppegccaaDoorFTraceA
import Derived.Test.YtocgbbhppegccaaDoorFJournalE
import Derived.Test.YtocgbbhppegccaaDoorFJournalA
section
namespace Go.Proofs.YtocgbbhppegccaaDoor.F
open Go.RowKit Go.Proofs.YtocgbbhppegccaaDoorW.PrintWords Go.Proofs.YtocgbbhppegccaaDoorW.PrintLast Go.Proofs.YtocgbbhppegccaaDoorW.PrintMore
set_option linter.unusedSimpArgs false
set_option linter.unusedVariables false
def ja_bs : List Int := [3, 255, 255, 255, 255, 255, 255, 255, 255, 7, 0, 0, 0, 0, 0, 0, 0, 0, 0, 0, 0, 0, 0, 0, 0, 223, 43, 16, 24, 232, 24, 0, 226]
theorem ja_frame : journal_Frame.f 60 0 3 (-1) 7 0 = some (ja_bs, 16285043637686905823) := by kernel_rfl
theorem ja_read : journal_Read.f 80 ja_bs = some ([⟨3, -1, 7, 0⟩], 33) := by kernel_rfl
theorem ja_add1 {base : Nat} {w : World} {g : Nat} (h : Jr base (fun _ => True) w g (.slice none 0 0) [] 0) (HT : Aside0 (Tab w)) :
    Calls Tryd.prog 8 #[.pointer (some ⟨g, 0, none⟩), .agg #[.int .i64 3, .int .i64 (-1), .int .i64 7, .int .i64 0]] w fun e w' => e = .returned (.int .i64 0) ∧ ∃ v', Jr base (fun _ => True) w' g v' ja_bs 16285043637686905823 ∧ Below base w w' :=
  (journal_Journal_Add.own 60 3 (-1) 7 0 ja_bs _ h (fun _ _ => trivial) (by decide +kernel) (by simp) (by decide) (by simp) ja_frame HT).mono fun e w' ⟨he, v', hj, _, hb, _⟩ => ⟨he, v', hj, hb⟩
theorem ja_add2 {w : World} {g : Nat} (HT : Aside0 (Tab w)) :
    Calls Tryd.prog 8 #[.pointer (some ⟨g, 0, none⟩), .agg #[.int .i64 0, .int .i64 0, .int .i64 0, .int .i64 0]] w fun e w' => e = .returned (.int .i64 8) ∧ Below w.heap.size w w' :=
  journal_Journal_Add.strange (base := 0) (ok := fun _ => True) (v := .slice none 0 0) (l := []) (s := 0) 0 0 0 0 (by decide +kernel) HT
theorem ja_len {base : Nat} {ok : Nat → Prop} {w : World} {g : Nat} {v : Value} {s : Int} (h : Jr base ok w g v ja_bs s) :
    Calls Tryd.prog 12 #[.pointer (some ⟨g, 0, none⟩)] w fun e w' => e = .returned (.int .i64 1) ∧ Drawn0 w w' := journal_Journal_Len.own h (by decide)
set_option maxHeartbeats 8000000 in
set_option maxRecDepth 100000 in
theorem tombolalaw46_alive.own (w : World) (HT : Aside0 (Tab w)) : Calls Tryd.prog 6 #[] w fun e w' => e = .returned (.bool true) ∧ Below w.heap.size w w' := by
  have hu := Tryd.underlying29
  have heq : ∀ (W : World), (binOp BinOp.eql 29 (.agg #[.int .i64 3, .int .i64 (-1), .int .i64 7, .int .i64 0]) (.agg #[.int .i64 3, .int .i64 (-1), .int .i64 7, .int .i64 0])).run Tryd.prog W = .ok (.bool true) W := fun W => by kernel_rfl
  go_enter Tryd.func6, Tryd.ntmps6
  go_wp2_with (first
    | (go_at_call 7; refine (journal_New.own _).mono ?_; rintro e w1 ⟨g, rfl, hj, hb⟩; have HJ := Aside0.mk hj; have HB := Aside0.mk hb; clear hj hb)
    | (go_at_call 8; with_reducible refine (ja_add1 HJ.out (Tab.later HT HB.out)).mono ?_; rintro e w2 ⟨rfl, v2, hj, hb⟩; have n1 := Aside0.mk (HB.out.trans hb); clear HJ HB hb; have HB := n1; have HJ := Aside0.mk hj; clear n1 hj)
    | (go_at_call 8; with_reducible refine (ja_add2 (Tab.later HT HB.out)).mono ?_; rintro e w3 ⟨rfl, hb⟩; have n1 := Aside0.mk (below_step HB.out hb); have n2 := Aside0.mk (HJ.out.below hb); clear HJ HB hb; have HB := n1; have HJ := n2; clear n1 n2)
    | (go_at_call 9; refine (journal_Journal_Bytes.own HJ.out (by decide)).mono ?_; rintro e w4 ⟨u, rfl, hR, hb⟩; obtain ⟨A4, c4, eu, hc4, hC4⟩ := Kd.R_reads hR; subst eu; have n1 := Aside0.mk (below_step HB.out hb); have n2 := Aside0.mk (HJ.out.below hb); have H4 := Aside0.mk hC4; have I4 := Aside0.mk hc4; clear HJ HB hb hR hC4 hc4; have HB := n1; have HJ := n2; clear n1 n2)
    | (go_at_call 10; refine (journal_Read.calls 80 A4 c4 ja_bs _ _ _ H4.out I4.out ja_read (Tab.later HT HB.out)).mono ?_; rintro e w5 ⟨u, rfl, hR, hb⟩; obtain ⟨A5, c5, eu, hc5, hC5⟩ := Kd.R_reads hR; subst eu; have n1 := Aside0.mk (below_step HB.out hb); have n2 := Aside0.mk (HJ.out.below hb); obtain ⟨ad, e5, x0, x1, x2, x3⟩ := at_T29 hC5 0 (by decide) (by decide); subst e5; simp only [Int.toNat_zero, Nat.zero_mul, Addr.add_zero'] at x0 x1 x2 x3; clear HJ HB hb hR hC5 hc5 H4 I4; have HB := n1; have HJ := n2; clear n1 n2)
    | (go_at_call 12; refine (ja_len HJ.out).mono ?_; rintro e w6 ⟨rfl, ⟨nd, rfl⟩⟩))
  go_ret
  exact ⟨rfl, by repeat (first | exact HB.out | apply pw_below_drewN)⟩
end Go.Proofs.YtocgbbhppegccaaDoor.F
end
section
namespace Go.Proofs.YtocgbbhppegccaaDoor.N
open Go Go.RowKit Go.Proofs.YtocgbbhppegccaaDoor.F Go.Proofs.YtocgbbhppegccaaDoorW.PrintWords Go.Proofs.YtocgbbhppegccaaDoorW.PrintLast Go.Proofs.YtocgbbhppegccaaDoorW.PrintMore
set_option linter.unusedSimpArgs false
set_option linter.unusedVariables false
theorem u64w {x : Int} (h0 : 0 ≤ x) (h1 : x < 18446744073709551616) : IntKind.u64.wrap x = x := by
  simp [IntKind.wrap, IntKind.bits, IntKind.signed]; omega
theorem u64n (n : Nat) (h : n < 18446744073709551616) : IntKind.u64.wrap (n : Int) = (n : Int) := u64w (by omega) (by omega)
theorem i64w {x : Int} (h0 : -9223372036854775808 ≤ x) (h1 : x < 9223372036854775808) : wrap64 x = x := by unfold wrap64; omega
theorem u64_mod (x : Int) : IntKind.u64.wrap x = x % 18446744073709551616 := by
  simp [IntKind.wrap, IntKind.bits, IntKind.signed]
theorem ev_some {α : Type} (r : α) : Ev (fun _ : Nat => some r) r := Ev.now r
theorem tdiv_nat (a b : Nat) : Int.tdiv (a : Int) (b : Int) = ((a / b : Nat) : Int) := by rw [Int.tdiv_eq_ediv_of_nonneg (Int.natCast_nonneg _)]; rfl
theorem tmod_nat (a b : Nat) : Int.tmod (a : Int) (b : Int) = ((a % b : Nat) : Int) := by rw [Int.tmod_eq_emod_of_nonneg (Int.natCast_nonneg _)]; rfl
def ofN (m : List Nat) : List Int := m.map fun (n : Nat) => (n : Int)
theorem ofN_length (m : List Nat) : (ofN m).length = m.length := by simp [ofN]
theorem rd_ofN (m : List Nat) (j : Nat) : rd (ofN m) (j : Int) = ((m.getD j 0 : Nat) : Int) := by
  simp only [rd, Int.toNat_natCast, ofN, List.getD_eq_getElem?_getD, List.getElem?_map]
  cases m[j]? <;> rfl
theorem ofN_set (m : List Nat) (j n : Nat) : (ofN m).set j (n : Int) = ofN (m.set j n) := by
  unfold ofN; rw [List.map_set]
end Go.Proofs.YtocgbbhppegccaaDoor.N
end
section
namespace Go.Proofs.YtocgbbhppegccaaDoor.F
open Go.RowKit Go.Proofs.YtocgbbhppegccaaDoorW.PrintWords Go.Proofs.YtocgbbhppegccaaDoorW.PrintLast Go.Proofs.YtocgbbhppegccaaDoorW.PrintMore
attribute [local go_sem] max2_int min2_int max_two min_two max_three min_three max_four min_four
set_option linter.unusedVariables false
set_option linter.unusedSimpArgs false
theorem eqA29 (d : Nat) (w : World) (x0 y0 : Int) (x1 y1 : Int) (x2 y2 : Int) (x3 y3 : Int) :
  (Op.equalIn (d + 2) 29 (.agg #[.int .i64 x0, .int .i64 x1, .int .i64 x2, .int .i64 x3]) (.agg #[.int .i64 y0, .int .i64 y1, .int .i64 y2, .int .i64 y3])).run Tryd.prog w = .ok (x0 == y0 && (x1 == y1 && (x2 == y2 && (x3 == y3)))) w := by
 refine eqA_of Tryd.underlying29 (by kernel_rfl) ?_
 refine eqf_cons (by rfl) (by go_simp;rfl) (by go_simp;rfl) (by go_simp) ?_
 refine eqf_cons (by rfl) (by go_simp;rfl) (by go_simp;rfl) (by go_simp) ?_
 refine eqf_cons (by rfl) (by go_simp;rfl) (by go_simp;rfl) (by go_simp) ?_
 exact eqf_last (by rfl) (by go_simp;rfl) (by go_simp;rfl) (by go_simp)
end Go.Proofs.YtocgbbhppegccaaDoor.F
end
