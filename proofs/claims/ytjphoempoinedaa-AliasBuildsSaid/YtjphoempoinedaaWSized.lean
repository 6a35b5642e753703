-- Cut for this claim by a program (wip/prune.py) out of the texts that its bench laid or wrote
import Derived.Test.YtjphoempoinedaaAliasB7
import Derived.Test.YtjphoempoinedaaFLaw12AliasBuilds
import Derived.SizedLaws
import Derived.ChangeSlices
section
namespace Go.Proofs.Ytjphoempoinedaa.N
open Go Go.RowKit Go.Proofs.Ytjphoempoinedaa.F Go.Proofs.YtjphoempoinedaaW.PrintWords Go.Proofs.YtjphoempoinedaaW.PrintLast Go.Proofs.YtjphoempoinedaaW.PrintMore Go.Proofs.Ytjphoempoinedaa.Digs
set_option linter.unusedSimpArgs false
set_option linter.unusedVariables false
theorem cmp_same (a : Nat) : cmpN a a = 0 := by
  unfold cmpN
  rw [if_neg (Nat.lt_irrefl _), if_neg (Nat.lt_irrefl _)]
theorem builds_l0 (T : Nat) (m : List Nat) (hm : Words m) (hn : m.length ≤ 300) (c o : Nat → Nat) (hT : T < 18446744073709551616) (h : Built T m.length (fun j => m.getD j 0 * m.length) c o) (d : Nat) : ∀ j : Nat, m.length - j = d → j ≤ m.length →
    Ev (fun k => tombolalaw12_AliasBuilds.l0 k (ofN m) (T : Int) (cols (mkC m.length c o)) (j : Int)) true := by
  induction d with
  | zero =>
    intro j hd hj
    refine Ev.step (f := fun k => (tombolalaw12_alive.f k).bind fun t129 => (some t129)) (fun k => ?_) (Ev.bind alive12_ev (Ev.now _))
    simp only [tombolalaw12_AliasBuilds.l0]
    rw [if_neg (by rw [ofN_length]; omega)]
  | succ d ih =>
    intro j hd hj
    have hlt : j < m.length := by omega
    have hr := rcount_ev T (mkC m.length c o) c o (built_cols _ _ _ _ _ h) hT (by rw [mkC_length]; exact hn) (j : Int)
    rw [mkC_length, h.2 j hlt] at hr
    have hw := words_get hm j
    have w1 : wrap64 ((j : Int) + 1) = ((j + 1 : Nat) : Int) := by rw [i64w (by omega) (by omega)]; omega
    have w2 : IntKind.u64.wrap ((m.length : Int)) = (m.length : Int) := u64w (by omega) (by omega)
    have l2 := u64_len hw
    have l3 := u64_len (n := m.length) (by omega)
    have hV : m.getD j 0 * m.length < 1208925819614629174706176 := by
      have : m.getD j 0 * m.length ≤ m.getD j 0 * 300 := Nat.mul_le_mul_left _ hn
      omega
    have l4 := len_small hV
    have hmul := mul_ev (m.getD j 0) m.length (by omega) (by omega)
    have hcmp := cmp_ev (m.getD j 0 * m.length) (m.getD j 0 * m.length) (by omega) (by omega)
    rw [cmp_same] at hcmp
    have hn2 := ih (j + 1) (by omega) (by omega)
    refine Ev.step (f := fun k => (tombolaref12_Count.f k (T : Int) (cols (mkC m.length c o)) (j : Int)).bind fun t130 => ((tombolaref01_Of.f k ((m.getD j 0 : Nat) : Int)).bind fun t134 => ((tombolaref01_Of.f k (m.length : Int)).bind fun t137 => ((tombolaref01_Mul.f k t134 t137).bind fun t140 => ((tombolaref01_Cmp.f k t130 t140).bind fun t143 => (if t143 = 0 then (tombolalaw12_AliasBuilds.l0 k (ofN m) (T : Int) (cols (mkC m.length c o)) ((j + 1 : Nat) : Int)) else (some false))))))) (fun k => ?_) ?_
    · simp only [tombolalaw12_AliasBuilds.l0]
      rw [if_pos (by rw [ofN_length]; omega)]
      simp only [ofN_length, if_pos (Int.natCast_nonneg j), rd_ofN, w1, w2]
    · exact Ev.bind hr (Ev.bind (of_ev _ hw) (Ev.bind (of_ev m.length (by omega)) (Ev.bind hmul (Ev.bind hcmp (Ev.congr (fun k => by rw [if_pos rfl]) hn2)))))
end Go.Proofs.Ytjphoempoinedaa.N
end
section
namespace Go.Proofs.Ytjphoempoinedaa.N
open Go Go.RowKit Go.Proofs.Ytjphoempoinedaa.F Go.Proofs.YtjphoempoinedaaW.PrintWords Go.Proofs.YtjphoempoinedaaW.PrintLast Go.Proofs.YtjphoempoinedaaW.PrintMore Go.Proofs.Ytjphoempoinedaa.Digs
set_option linter.unusedSimpArgs false
set_option linter.unusedVariables false
theorem word_evB (n : Nat) : Ev (fun k => tombolaref01_Word.f k (digs n)) (if n < 18446744073709551616 then ((n : Int), true) else (0, false)) := by
  by_cases h : n < 18446744073709551616
  · rw [if_pos h]; exact word_ev _ h
  · rw [if_neg h]; exact word_no _ (Nat.le_of_not_lt h)
theorem builds_j0 (m : List Nat) (hn : m.length ≤ 300) (b : Int × List S107 × Int) (t : Nat) (tok : Bool) (ht : t < 18446744073709551616) (hB : Ev (fun k => alias_Build.f k (ofN m)) b) (hTo : Ev (fun k => tombolaref09_Total.f k (ofN m)) ((t : Int), tok))
    (h : Ev (fun k => tombolalaw12_AliasBuilds.j1 k (ofN m) b.2.2 (t : Int) (if tok = true then !(decide (t * m.length < 18446744073709551616)) else true) b.1 b.2.1) true) : Ev (fun k => tombolalaw12_AliasBuilds.j0 k (ofN m) false) true := by
  have hword := word_evB (t * m.length)
  have l1 := u64_len ht
  have l3 := u64_len (n := m.length) (by omega)
  obtain ⟨K1, e1⟩ := hB
  obtain ⟨K2, e2⟩ := hTo
  obtain ⟨K3, e3⟩ := of_ev t ht
  obtain ⟨K4, e4⟩ := of_ev m.length (by omega)
  obtain ⟨K5, e5⟩ := mul_ev t m.length (by omega) (by omega)
  obtain ⟨K6, e6⟩ := hword
  obtain ⟨K7, e7⟩ := h
  refine ⟨K1 + K2 + K3 + K4 + K5 + K6 + K7 + 1, fun k hk => ?_⟩
  obtain ⟨k, rfl⟩ : ∃ k', k = k' + 1 := ⟨k - 1, by omega⟩
  have f1 : alias_Build.f k (ofN m) = some b := e1 k (by omega)
  have f2 : tombolaref09_Total.f k (ofN m) = some ((t : Int), tok) := e2 k (by omega)
  have f3 : tombolaref01_Of.f k (t : Int) = some (digs t) := e3 k (by omega)
  have f4 : tombolaref01_Of.f k (m.length : Int) = some (digs m.length) := e4 k (by omega)
  have f5 : tombolaref01_Mul.f k (digs t) (digs m.length) = some (digs (t * m.length)) := e5 k (by omega)
  have f6 : tombolaref01_Word.f k (digs (t * m.length)) = some (if t * m.length < 18446744073709551616 then (((t * m.length : Nat) : Int), true) else (0, false)) := e6 k (by omega)
  have f7 : tombolalaw12_AliasBuilds.j1 k (ofN m) b.2.2 (t : Int) (if tok = true then !(decide (t * m.length < 18446744073709551616)) else true) b.1 b.2.1 = some true := e7 k (by omega)
  have w2 : IntKind.u64.wrap ((m.length : Int)) = (m.length : Int) := u64w (by omega) (by omega)
  have ef : (if t * m.length < 18446744073709551616 then (((t * m.length : Nat) : Int), true) else ((0 : Int), false)).2 = decide (t * m.length < 18446744073709551616) := by
    by_cases h : t * m.length < 18446744073709551616
    · rw [if_pos h, decide_eq_true h]
    · rw [if_neg h, decide_eq_false h]
  show tombolalaw12_AliasBuilds.j0 (k + 1) (ofN m) false = some true
  simp only [tombolalaw12_AliasBuilds.j0]
  rw [if_neg (by decide), f1, Option.bind_some, if_neg (by rw [ofN_length]; omega), f2, Option.bind_some, f3, Option.bind_some, ofN_length, w2, f4, Option.bind_some, f5, Option.bind_some, f6, Option.bind_some, ef]
  cases tok
  · rw [if_neg (by decide)] at f7
    rw [if_neg (show ¬ (false = true) by decide)]
    exact f7
  · rw [if_pos rfl] at f7 ⊢; exact f7
end Go.Proofs.Ytjphoempoinedaa.N
end
section
namespace Go.Proofs.Ytjphoempoinedaa.N
open Go Go.RowKit Go.Proofs.Ytjphoempoinedaa.F Go.Proofs.YtjphoempoinedaaW.PrintWords Go.Proofs.YtjphoempoinedaaW.PrintLast Go.Proofs.YtjphoempoinedaaW.PrintMore Go.Proofs.Ytjphoempoinedaa.Digs
set_option linter.unusedSimpArgs false
set_option linter.unusedVariables false
theorem builds_j1_over (l : List Int) (t v : Int) : Ev (fun k => tombolalaw12_AliasBuilds.j1 k l 10 t true v []) true := by
  refine Ev.step (f := fun k => (tombolalaw12_alive.f k).bind fun t122 => (some t122)) (fun k => ?_) (Ev.bind alive12_ev (Ev.now _))
  simp only [tombolalaw12_AliasBuilds.j1]
  rfl
theorem builds_j1_zero (l : List Int) (v : Int) : Ev (fun k => tombolalaw12_AliasBuilds.j1 k l 1 0 false v []) true := by
  refine Ev.step (f := fun k => (tombolalaw12_alive.f k).bind fun t122 => (some t122)) (fun k => ?_) (Ev.bind alive12_ev (Ev.now _))
  simp only [tombolalaw12_AliasBuilds.j1]
  rfl
theorem builds_j1_good (m : List Nat) (hm : Words m) (hn : m.length ≤ 300) (c o : Nat → Nat) (h0 : 0 < m.sum) (hT : m.sum < 18446744073709551616) (hl : 0 < m.length) (h : Built m.sum m.length (fun j => m.getD j 0 * m.length) c o) :
    Ev (fun k => tombolalaw12_AliasBuilds.j1 k (ofN m) 0 (m.sum : Int) false (m.sum : Int) (mkC m.length c o)) true := by
  have hR := built_right _ _ _ _ _ h0 hl h
  have hC := built_cols _ _ _ _ _ h
  have hF := fair_ev m.sum (mkC m.length c o) c o hC hT (by rw [mkC_length]; exact hn) hR m hm hn
  have eF : fairV m.sum (mkC m.length c o).length c o m = true := by
    unfold fairV
    rw [mkC_length, decide_eq_true hT, decide_eq_true rfl, decide_eq_true rfl, Bool.true_and, Bool.true_and, Bool.true_and]
    rw [List.all_eq_true]
    intro j hj
    rw [List.mem_range'_1] at hj
    exact decide_eq_true (h.2 j (by omega))
  rw [eF] at hF
  obtain ⟨K1, e1⟩ := columns_ev (m.sum : Int) (mkC m.length c o) (by rw [mkC_length]; omega)
  obtain ⟨K2, e2⟩ := rright_ev (m.sum : Int) (mkC m.length c o) (by rw [mkC_length]; omega)
  obtain ⟨K3, e3⟩ := hF
  obtain ⟨K4, e4⟩ := builds_l0 m.sum m hm hn c o hT h _ 0 rfl (Nat.zero_le _)
  refine ⟨K1 + K2 + K3 + K4 + 2, fun k hk => ?_⟩
  obtain ⟨k, rfl⟩ : ∃ k', k = k' + 2 := ⟨k - 2, by omega⟩
  have f1 : tombolalaw12_columns.f (k + 1) (m.sum : Int) (mkC m.length c o) = some (cols (mkC m.length c o)) := e1 (k + 1) (by omega)
  have f2 : tombolaref12_Right.f (k + 1) (m.sum : Int) (cols (mkC m.length c o)) = some (rightB (m.sum : Int) (mkC m.length c o)) := e2 (k + 1) (by omega)
  have f3 : alias_Fair.f (k + 1) (m.sum : Int) (mkC m.length c o) (ofN m) = some true := e3 (k + 1) (by omega)
  have f4 : tombolalaw12_AliasBuilds.l0 k (ofN m) (m.sum : Int) (cols (mkC m.length c o)) 0 = some true := e4 k (by omega)
  show tombolalaw12_AliasBuilds.j1 (k + 2) (ofN m) 0 (m.sum : Int) false (m.sum : Int) (mkC m.length c o) = some true
  simp only [tombolalaw12_AliasBuilds.j1]
  rw [if_neg (by decide), if_neg (by omega), f1, Option.bind_some, if_pos trivial, if_pos trivial, if_pos (by rw [cols_length, mkC_length, ofN_length]), f2, Option.bind_some, if_pos hR, f3, Option.bind_some]
  simp only [tombolalaw12_AliasBuilds.j2]
  rw [if_neg (by decide)]
  exact f4
end Go.Proofs.Ytjphoempoinedaa.N
end
section
namespace Go.Proofs.Ytjphoempoinedaa.N
open Go Go.RowKit Go.Proofs.Ytjphoempoinedaa.F Go.Proofs.YtjphoempoinedaaW.PrintWords Go.Proofs.YtjphoempoinedaaW.PrintLast Go.Proofs.YtjphoempoinedaaW.PrintMore Go.Proofs.Ytjphoempoinedaa.Digs
set_option linter.unusedSimpArgs false
set_option linter.unusedVariables false
theorem builds_alive (l : List Int) : Ev (fun k => tombolalaw12_AliasBuilds.j0 k l true) true := by
  refine Ev.step (f := fun k => (tombolalaw12_alive.f k).bind fun t101 => (some t101)) (fun k => ?_) (Ev.bind alive12_ev (Ev.now _))
  simp only [tombolalaw12_AliasBuilds.j0]
  rfl
theorem builds_many (l : List Int) (h : (l.length : Int) > 4096) : Ev (fun k => tombolalaw12_AliasBuilds.j0 k l false) true := by
  obtain ⟨K1, e1⟩ := build_err l 0 5 (by decide) (measure_many l h)
  obtain ⟨K2, e2⟩ := alive12_ev
  refine ⟨K1 + K2 + 1, fun k hk => ?_⟩
  obtain ⟨k, rfl⟩ : ∃ k', k = k' + 1 := ⟨k - 1, by omega⟩
  have f1 : alias_Build.f k l = some (0, [], 5) := e1 k (by omega)
  have f2 : tombolalaw12_alive.f k = some true := e2 k (by omega)
  show tombolalaw12_AliasBuilds.j0 (k + 1) l false = some true
  simp only [tombolalaw12_AliasBuilds.j0]
  rw [if_neg (by decide), f1, Option.bind_some, if_pos h, f2]
  rfl
theorem builds_small (m : List Nat) (hm : Words m) (hn : m.length ≤ 300) : Ev (fun k => tombolalaw12_AliasBuilds.j0 k (ofN m) false) true := by
  have hto := rtotal_ev m hm (by omega)
  by_cases hs : m.sum < 18446744073709551616
  · rw [if_pos hs] at hto
    by_cases hf : m.sum * m.length < 18446744073709551616
    · by_cases hz : m.sum = 0
      · have hB := build_err (ofN m) 0 1 (by decide) (measure_zero m hm hn hz)
        rw [hz] at hto hf
        refine builds_j0 m hn _ 0 true (by decide) hB hto ?_
        rw [if_pos rfl, decide_eq_true hf]
        exact builds_j1_zero (ofN m) 0
      · obtain ⟨c, o, hB, hBt⟩ := build_ev m hm hn (by omega) hs hf
        refine builds_j0 m hn _ m.sum true hs hB hto ?_
        rw [if_pos rfl, decide_eq_true hf]
        have hl : 0 < m.length := by
          by_cases h0 : m.length = 0
          · have : m = [] := List.length_eq_zero_iff.1 h0
            subst this
            exact absurd rfl hz
          · omega
        exact builds_j1_good m hm hn c o (by omega) hs hl hBt
    · have hB := build_err (ofN m) 0 10 (by decide) (measure_over m hm hn (fun e => hf e.2))
      refine builds_j0 m hn _ m.sum true hs hB hto ?_
      rw [if_pos rfl, decide_eq_false hf]
      exact builds_j1_over (ofN m) _ 0
  · rw [if_neg hs] at hto
    have hB := build_err (ofN m) 0 10 (by decide) (measure_over m hm hn (fun e => hs e.1))
    refine builds_j0 m hn _ 0 false (by decide) hB hto ?_
    rw [if_neg (by decide)]
    exact builds_j1_over (ofN m) _ 0
theorem pureAliasBuilds (l : List Int) (hl : ∀ x, x ∈ l → (Lit.int .u64 x).wf = true) : ∃ k, tombolalaw12_AliasBuilds.f k l = some true := by
  refine Ev.rounds ?_
  obtain ⟨m, rfl, hm⟩ := ofN_of l hl
  have e := ofN_length m
  unfold tombolalaw12_AliasBuilds.f
  by_cases g1 : ((ofN m).length : Int) > 300
  · refine Ev.congr (fun k => by rw [if_pos g1]) ?_
    by_cases g2 : ((ofN m).length : Int) ≤ 4096
    · refine Ev.congr (fun k => by rw [if_pos g2]) ?_
      exact builds_alive _
    · refine Ev.congr (fun k => by rw [if_neg g2]) ?_
      by_cases g3 : ((ofN m).length : Int) > 5000
      · rw [decide_eq_true g3]; exact builds_alive _
      · rw [decide_eq_false g3]; exact builds_many _ (by omega)
  · refine Ev.congr (fun k => by rw [if_neg g1]) ?_
    rw [decide_eq_false (show ¬ ((ofN m).length : Int) > 5000 by omega)]
    exact builds_small m hm (by omega)
end Go.Proofs.Ytjphoempoinedaa.N
end
section
namespace Go.Proofs.Ytjphoempoinedaa.N
open Go Go.RowKit Go.Proofs.Ytjphoempoinedaa.F Go.Proofs.YtjphoempoinedaaW.PrintWords Go.Proofs.YtjphoempoinedaaW.PrintLast Go.Proofs.YtjphoempoinedaaW.PrintMore Go.Proofs.Ytjphoempoinedaa.Digs
set_option linter.unusedSimpArgs false
set_option linter.unusedVariables false
theorem mainAliasBuilds (A0 : Option Addr) (c0 : Nat) (l : List Int) (w : World) (hr0 : Kd.C (Kd.int .u64) w A0 l.length l) (hc0 : l.length ≤ c0) (hw : (∀ x, x ∈ l → (Lit.int .u64 x).wf = true) ∧ l.length ≤ 9223372036854775807) {Q : Prop} (_ : Q) :
    Calls Try.prog 7 #[.slice A0 l.length c0] w fun e w' => e = .returned (.bool true) ∧ Below w.heap.size w w' := by
  obtain ⟨k, hk⟩ := pureAliasBuilds l hw.1
  exact tombolalaw12_AliasBuilds.calls k A0 c0 l true ⟨rfl⟩ w hr0 hc0 hk
end Go.Proofs.Ytjphoempoinedaa.N
end
section
namespace Go.Proofs.YtjphoempoinedaaW.PrintWords
open Go.ChangeShapes Go.WideShapes
theorem sized_ints {H : Type} {enc : TypeId × Value → H} {P : Program} {W : World} {base : Nat} {spare : Nat → Bool} {held : Bool} {t e : TypeId} {k : IntKind} {a : Option Addr} {len cap : Nat} {d : DataW H} {ps : List MemPlace} {ts : List TypeId} {ds : List (DataW H)} {j : Nat}
    (hsz : (DataW.weightsEach P ts ds).all (· ≤ reachBytes) = true) (ht : ts[j]? = some t) (hd : ds[j]? = some d) (hu : P.underlying t = some (.slice e)) (he : P.underlying e = some (.int k)) (hc : P.cellsOf e = 1) {B : Nat} (hB : P.bytesOf e = B)
    (h : DataW.Trod enc P W base spare held t (.slice a len cap) d ps) : len * B ≤ 140737488351232 := by
  obtain ⟨fuel, hf⟩ := h
  rcases open_ints hu he hc hf with ⟨hcs, _⟩ | ⟨x, l, c, zs, hcs, _, hl, _, hz, hx, _, _⟩
  · simp [Value.cells] at hcs
    obtain ⟨rfl, rfl, rfl⟩ := hcs
    simp
  · simp [Value.cells] at hcs
    obtain ⟨rfl, rfl, rfl⟩ := hcs
    obtain ⟨hx, _⟩ := Prod.mk.inj hx
    subst hx
    have z := sized_slice hsz ht hd hu
    rw [hB] at z
    have hl2 : len ≤ zs.length := by
      rw [hz]
      split
      · exact hl
      · exact Nat.le_refl _
    have h1 : (lits (H := H) k (zs.take len)).length + (lits (H := H) k (zs.drop len)).length = zs.length := by
      simp [lits]
      omega
    rw [h1] at z
    exact Nat.le_trans (Nat.mul_le_mul_right _ hl2) z
end Go.Proofs.YtjphoempoinedaaW.PrintWords
end
