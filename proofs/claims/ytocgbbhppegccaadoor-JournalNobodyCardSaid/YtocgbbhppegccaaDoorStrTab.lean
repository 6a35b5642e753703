-- Cut for this claim by a program (wip/prune.py) out of the texts that its bench laid or wrote
import Derived.Test.YtocgbbhppegccaaDoorJournal
import Derived.Test.YtocgbbhppegccaaDoorFJournalE
import Derived.SizedLaws
import Derived.ChangeSlices
import Derived.LaidLaws
import Derived.ChangeArms
import Derived.Lib.LaidTab
section
namespace Go.Proofs.YtocgbbhppegccaaDoor.F
open Go.RowKit Go.Proofs.YtocgbbhppegccaaDoorW.PrintWords Go.Proofs.YtocgbbhppegccaaDoorW.PrintLast Go.Proofs.YtocgbbhppegccaaDoorW.PrintMore
set_option linter.unusedSimpArgs false
set_option linter.unusedVariables false
def ja_bs : List Int := [3, 255, 255, 255, 255, 255, 255, 255, 255, 7, 0, 0, 0, 0, 0, 0, 0, 0, 0, 0, 0, 0, 0, 0, 0, 223, 43, 16, 24, 232, 24, 0, 226]
theorem ja_frame : journal_Frame.f 60 0 3 (-1) 7 0 = some (ja_bs, 16285043637686905823) := by kernel_rfl
theorem ja_read : journal_Read.f 80 ja_bs = some ([⟨3, -1, 7, 0⟩], 33) := by kernel_rfl
theorem ja_add1 {base : Nat} {w : World} {g : Nat} (h : Jr base (fun _ => True) w g (.slice none 0 0) [] 0) (HT : Aside0 (Tab w)) :
    Calls Tryd.prog 8 #[.pointer (some ⟨g, 0, none⟩), .agg #[.int .i64 3, .int .i64 (-1), .int .i64 7, .int .i64 0]] w fun e w' => e = .returned (.int .i64 0) ∧ ∃ v', Jr base (fun _ => True) w' g v' ja_bs 16285043637686905823 ∧ Below base w w' :=
  (journal_Journal_Add.own 60 3 (-1) 7 0 ja_bs _ h (fun _ _ => trivial) (by decide +kernel) (by simp) (by decide) (by simp) ja_frame HT).mono fun e w' ⟨he, v', hj, _, hb, _⟩ => ⟨he, v', hj, hb⟩
theorem ja_add2 {w : World} {g : Nat} (HT : Aside0 (Tab w)) :
    Calls Tryd.prog 8 #[.pointer (some ⟨g, 0, none⟩), .agg #[.int .i64 0, .int .i64 0, .int .i64 0, .int .i64 0]] w fun e w' => e = .returned (.int .i64 8) ∧ Below w.heap.size w w' :=
  journal_Journal_Add.strange (base := 0) (ok := fun _ => True) (v := .slice none 0 0) (l := []) (s := 0) 0 0 0 0 (by decide +kernel) HT
theorem ja_len {base : Nat} {ok : Nat → Prop} {w : World} {g : Nat} {v : Value} {s : Int} (h : Jr base ok w g v ja_bs s) :
    Calls Tryd.prog 12 #[.pointer (some ⟨g, 0, none⟩)] w fun e w' => e = .returned (.int .i64 1) ∧ Drawn0 w w' := journal_Journal_Len.own h (by decide)
set_option maxHeartbeats 8000000 in
set_option maxRecDepth 100000 in
theorem tombolalaw46_alive.own (w : World) (HT : Aside0 (Tab w)) : Calls Tryd.prog 6 #[] w fun e w' => e = .returned (.bool true) ∧ Below w.heap.size w w' := by
  have hu := Tryd.underlying29
  have heq : ∀ (W : World), (binOp BinOp.eql 29 (.agg #[.int .i64 3, .int .i64 (-1), .int .i64 7, .int .i64 0]) (.agg #[.int .i64 3, .int .i64 (-1), .int .i64 7, .int .i64 0])).run Tryd.prog W = .ok (.bool true) W := fun W => by kernel_rfl
  go_enter Tryd.func6, Tryd.ntmps6
  go_wp2_with (first
    | (go_at_call 7; refine (journal_New.own _).mono ?_; rintro e w1 ⟨g, rfl, hj, hb⟩; have HJ := Aside0.mk hj; have HB := Aside0.mk hb; clear hj hb)
    | (go_at_call 8; with_reducible refine (ja_add1 HJ.out (Tab.later HT HB.out)).mono ?_; rintro e w2 ⟨rfl, v2, hj, hb⟩; have n1 := Aside0.mk (HB.out.trans hb); clear HJ HB hb; have HB := n1; have HJ := Aside0.mk hj; clear n1 hj)
    | (go_at_call 8; with_reducible refine (ja_add2 (Tab.later HT HB.out)).mono ?_; rintro e w3 ⟨rfl, hb⟩; have n1 := Aside0.mk (below_step HB.out hb); have n2 := Aside0.mk (HJ.out.below hb); clear HJ HB hb; have HB := n1; have HJ := n2; clear n1 n2)
    | (go_at_call 9; refine (journal_Journal_Bytes.own HJ.out (by decide)).mono ?_; rintro e w4 ⟨u, rfl, hR, hb⟩; obtain ⟨A4, c4, eu, hc4, hC4⟩ := Kd.R_reads hR; subst eu; have n1 := Aside0.mk (below_step HB.out hb); have n2 := Aside0.mk (HJ.out.below hb); have H4 := Aside0.mk hC4; have I4 := Aside0.mk hc4; clear HJ HB hb hR hC4 hc4; have HB := n1; have HJ := n2; clear n1 n2)
    | (go_at_call 10; refine (journal_Read.calls 80 A4 c4 ja_bs _ _ _ H4.out I4.out ja_read (Tab.later HT HB.out)).mono ?_; rintro e w5 ⟨u, rfl, hR, hb⟩; obtain ⟨A5, c5, eu, hc5, hC5⟩ := Kd.R_reads hR; subst eu; have n1 := Aside0.mk (below_step HB.out hb); have n2 := Aside0.mk (HJ.out.below hb); obtain ⟨ad, e5, x0, x1, x2, x3⟩ := at_T29 hC5 0 (by decide) (by decide); subst e5; simp only [Int.toNat_zero, Nat.zero_mul, Addr.add_zero'] at x0 x1 x2 x3; clear HJ HB hb hR hC5 hc5 H4 I4; have HB := n1; have HJ := n2; clear n1 n2)
    | (go_at_call 12; refine (ja_len HJ.out).mono ?_; rintro e w6 ⟨rfl, ⟨nd, rfl⟩⟩))
  go_ret
  exact ⟨rfl, by repeat (first | exact HB.out | apply pw_below_drewN)⟩
end Go.Proofs.YtocgbbhppegccaaDoor.F
end
section
namespace Go.Proofs.YtocgbbhppegccaaDoor.F
open Go.RowKit Go.Proofs.YtocgbbhppegccaaDoorW.PrintWords Go.Proofs.YtocgbbhppegccaaDoorW.PrintLast Go.Proofs.YtocgbbhppegccaaDoorW.PrintMore
set_option linter.unusedSimpArgs false
set_option linter.unusedVariables false
set_option maxHeartbeats 4000000 in
set_option maxRecDepth 100000 in
theorem mainJournalNobody (a0 a1 a2 a3 : Int) (w : World) {P : Prop} (_ : P) (HT : Aside0 (Tab w)) :
    Calls Tryd.prog 4 #[.agg #[.int .i64 a0, .int .i64 a1, .int .i64 a2, .int .i64 a3]] w fun e w' => e = .returned (.bool true) ∧ Below w.heap.size w w' := by
  have hu := Tryd.underlying29
  have HB := Aside0.mk (below_alloc (Below.refl w.heap.size w) (.cells #[.int .i64 a0, .int .i64 a1, .int .i64 a2, .int .i64 a3] 29))
  go_enter Tryd.func4, Tryd.ntmps4
  go_wp2_with (first
    | (go_at_call 8; refine (journal_Journal_Add.nobody a0 a1 a2 a3 _).mono ?_; rintro e w1 ⟨rfl, hb⟩; have n1 := Aside0.mk (below_step HB.out hb); clear HB hb; have HB := n1; clear n1)
    | (go_at_call 12; refine (journal_Journal_Len.nobody _).mono ?_; rintro e w2 ⟨rfl, rfl⟩)
    | (go_at_call 9; refine (journal_Journal_Bytes.nobody _).mono ?_; rintro e w2 ⟨rfl, rfl⟩)
    | (go_at_call 6; refine (tombolalaw46_alive.own _ (Tab.later HT HB.out)).mono ?_; rintro e w3 ⟨rfl, hb⟩; have n1 := Aside0.mk (below_step HB.out hb); clear HB hb; have HB := n1; clear n1))
  go_ret
  exact ⟨rfl, HB.out⟩
end Go.Proofs.YtocgbbhppegccaaDoor.F
end
section
namespace Go.Proofs.YtocgbbhppegccaaDoorW.PrintWords
open Go.ChangeShapes Go.WideShapes
end Go.Proofs.YtocgbbhppegccaaDoorW.PrintWords
end
section
namespace Go.Proofs.YtocgbbhppegccaaDoor.F
open Go Go.Lib
set_option linter.unusedSimpArgs false
set_option linter.unusedVariables false
theorem strs_cells {H : Type} {enc : TypeId × Value → H} {P : Program} {w : World} {base : Nat} {sp : Nat → Bool} {held : Bool} {fuel : Nat} {t e : TypeId} {n : Nat} {cs : List Value} {ss : List ByteArray} {p : List MemPlace}
    (ht : P.underlying t = some (.array n e)) (he : P.underlying e = some .string) (hce : P.cellsOf e = 1) (hct : P.cellsOf t = n)
    (h : DataW.trod enc P w base sp held fuel t cs = some (.agg (ss.map fun s => .lit (.string s.data.toList)), p)) : cs = ss.map fun s => Value.string s := by
  cases fuel with
  | zero => simp [DataW.trod] at h
  | succ fuel =>
    simp only [DataW.trod, ht, hce, hct, Nat.mul_one] at h
    split at h
    · rename_i hl
      obtain ⟨xs, hm, hx⟩ := Option.map_eq_some_iff.1 h
      have hxs : xs.map (·.1) = ss.map fun s => (DataW.lit (.string s.data.toList) : DataW H) := by
        have := congrArg Prod.fst hx
        simpa using this
      have hxl : xs.length = n := by simpa using mapM_length hm
      have hzl : ss.length = n := by
        have := congrArg List.length hxs
        simp at this
        omega
      apply List.ext_getElem?
      intro i
      by_cases hi : i < n
      · obtain ⟨b, hb, hf⟩ := mapM_at hm i i (by simp [hi])
        obtain ⟨s, hc, rfl, _⟩ := DataW.trod_string he hf
        have h1 : cs[i]? = some (.string s) := by
          have := congrArg (·[0]?) hc
          simpa [List.getElem?_take, List.getElem?_drop] using this
        have h2 : (xs.map (·.1))[i]? = some (DataW.lit (.string s.data.toList) : DataW H) := by simp [hb]
        rw [hxs] at h2
        simp only [List.getElem?_map, Option.map_eq_some_iff, DataW.lit.injEq, Lit.string.injEq] at h2
        obtain ⟨s', hs', hd⟩ := h2
        have hss : s' = s := by
          cases s' with
          | mk d1 => cases s with
            | mk d2 => simp at hd; rw [hd]
        rw [h1, List.getElem?_map, hs', hss]; rfl
      · rw [List.getElem?_eq_none (by omega), List.getElem?_eq_none (by simp; omega)]
    · cases h
theorem strs_of_head {P : Program} {W : World} {name : String} {ss : List ByteArray} {rest : List (String × DataW Unit)} {g : Nat} {t e : TypeId} {n : Nat}
    (hg : P.globalNamed name = some g) (hty : (P.globals[g]?).map (·.type) = some t) (ht : P.underlying t = some (.array n e)) (he : P.underlying e = some .string) (hce : P.cellsOf e = 1) (hct : P.cellsOf t = n)
    (h : laidMet P ((name, .agg (ss.map fun s => .lit (.string s.data.toList))) :: rest) W) (i : Nat) (hi : i < ss.length) : W.cell? ⟨g, i, none⟩ = some (.string (ss.getD i ⟨#[]⟩)) := by
  obtain ⟨ps, ⟨g', t', cs, fuel, p, q, hg', ht', hvar, hd, _, _⟩, _⟩ := h
  obtain rfl := Option.some.inj (hg.symm.trans hg')
  obtain rfl := Option.some.inj (hty.symm.trans ht')
  have hv : W.var? P name = some (ss.map fun s => Value.string s).toArray := by rw [hvar, ← strs_cells ht he hce hct hd]
  have := World.var?_cell hg hv i
  simpa [List.getD, hi] using this
end Go.Proofs.YtocgbbhppegccaaDoor.F
end
